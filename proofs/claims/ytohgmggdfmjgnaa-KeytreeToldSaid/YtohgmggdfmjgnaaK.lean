/- Small words and lemmas for the walks of this seat. -/
import Derived.Test.YtohgmggdfmjgnaaProg
import Derived.WalkKit
import Derived.KernelRfl
import Derived.Deep.QuietTactic
import Derived.BigQuiet
import Derived.WalkLawsBesides
import Derived.WalkSpells
import Derived.Laws.CopyOwn
import Derived.Laws.BitsAllLaws
import Derived.Deep.DeepMust
set_option linter.unusedVariables false
set_option linter.unusedSimpArgs false
namespace Go.Proofs.Ytohgmggdfmjgnaa
open Go.RowKit

theorem hid {p : Prop} (h : p) : Hid p := h
/-- a byte's cell -/
def byc (b : UInt8) : Value := .int .u8 (b.toNat : Int)
/-- bytes as cells -/
def by8 (l : List UInt8) : List Value := l.map byc
theorem by8_length (l : List UInt8) : (by8 l).length = l.length := by simp [by8]
theorem by8_append (a b : List UInt8) : by8 (a ++ b) = by8 a ++ by8 b := by simp [by8]
theorem by8_take (l : List UInt8) (n : Nat) : (by8 l).take n = by8 (l.take n) := by simp [by8, List.map_take]
theorem by8_drop (l : List UInt8) (n : Nat) : (by8 l).drop n = by8 (l.drop n) := by simp [by8, List.map_drop]
theorem by8_one (l : List UInt8) : ∀ u ∈ by8 l, u.oneCell' = true := by
  intro u hu; simp [by8] at hu; obtain ⟨b, _, rfl⟩ := hu; rfl
/-- byte number i of a list, as a number -/
def bt8 (l : List UInt8) (i : Nat) : Int := ((l.getD i 0).toNat : Int)
theorem bt8_range (l : List UInt8) (i : Nat) : 0 ≤ bt8 l i ∧ bt8 l i ≤ 255 := by
  unfold bt8; have := (l.getD i 0).toNat_lt; omega
theorem bt8_get (l : List UInt8) (i : Nat) (h : i < l.length) : bt8 l i = (l[i].toNat : Int) := by simp [bt8, List.getD_eq_getElem?_getD, h]

/-- the cells cs can be read from A on -/
def Rd (w : World) (A : Option Addr) (cs : List Value) : Prop := ∀ i c, cs[i]? = some c → ∃ ad, A = some ad ∧ w.cell? (ad.add i) = some c
theorem Rd.below {w w1 : World} {A : Option Addr} {cs : List Value} (h : Rd w A cs) (hb : Below w.heap.size w w1) : Rd w1 A cs := by
  intro i c hc; obtain ⟨ad, rfl, h1⟩ := h i c hc
  exact ⟨ad, rfl, (hb.cell (World.block_lt_of_cell? w _ h1)).trans h1⟩
theorem Rd.nil (w : World) (A : Option Addr) : Rd w A [] := by intro i c h; simp at h
theorem Rd.drewN {w : World} {A : Option Addr} {cs : List Value} (h : Rd w A cs) (n : Nat) : Rd (w.drewN n) A cs := h
theorem Rd.take {w : World} {A : Option Addr} {cs : List Value} (h : Rd w A cs) (n : Nat) : Rd w A (cs.take n) := by
  intro i c hc
  rw [List.getElem?_take] at hc
  split at hc
  · exact h i c hc
  · cases hc
theorem addr_add_add (a : Addr) (m n : Nat) (hn : 0 < n) : (a.add m).add n = a.add (m + n) := by
  unfold Addr.add; by_cases hm : m = 0
  · subst hm; simp
  · rw [if_neg (by omega), if_neg hm, if_neg (by omega)]; simp [Nat.add_assoc]
theorem addr_add_add' (a : Addr) (m n : Nat) (hs : a.spot = none) : (a.add m).add n = a.add (m + n) := by
  unfold Addr.add; by_cases hm : m = 0
  · subst hm; simp
  · by_cases hn : n = 0
    · subst hn; simp
    · rw [if_neg hn, if_neg hm, if_neg (by omega)]; simp [Nat.add_assoc]
theorem addr_cell_spot {w : World} {a : Addr} {v : Value} (h : w.cell? a = some v) : a.spot = none := by
  unfold World.cell? at h; split at h
  · split at h
    · cases h
    · rename_i h2; simpa using h2
  · cases h
theorem Rd.drop {w : World} {A : Option Addr} {cs : List Value} (h : Rd w A cs) (n : Nat) : Rd w (A.map (·.add n)) (cs.drop n) := by
  intro i c hc
  rw [List.getElem?_drop] at hc
  obtain ⟨ad, rfl, h1⟩ := h _ _ hc
  refine ⟨ad.add n, rfl, ?_⟩
  by_cases hi : i = 0
  · subst hi
    have : (ad.add n).add 0 = ad.add n := by simp [Addr.add]
    rw [this]; simpa using h1
  · rw [addr_add_add _ _ _ (by omega)]; exact h1
/-- as Go writes a slice's tail: at the end of the capacity the old address stays -/
theorem Rd.tail {w : World} {A : Option Addr} {cs : List Value} (h : Rd w A cs) (n c : Nat) (hc : cs.length ≤ c) : Rd w (if c = n then A else A.map (·.add n)) (cs.drop n) := by
  by_cases e : c = n
  · rw [if_pos e, List.drop_of_length_le (by omega)]; exact Rd.nil _ _
  · rw [if_neg e]; exact h.drop n
theorem Rd.byte {w : World} {A : Option Addr} {l : List UInt8} (h : Rd w A (by8 l)) (i : Nat) (hi : i < l.length) : ∃ ad, A = some ad ∧ w.cell? (ad.add i) = some (.int .u8 (bt8 l i)) := by
  have := h i (byc l[i]) (by simp [by8, hi])
  rw [bt8_get l i hi]; exact this
theorem Rd.append {w : World} {g off : Nat} {cs ds : List Value} (h : Rd w (some ⟨g, off, none⟩) cs) (k : Rd w (some ⟨g, off + cs.length, none⟩) ds) : Rd w (some ⟨g, off, none⟩) (cs ++ ds) := by
  intro i c hc
  refine ⟨_, rfl, ?_⟩
  by_cases hi : i < cs.length
  · rw [List.getElem?_append_left hi] at hc
    obtain ⟨ad, e, h1⟩ := h i c hc; cases e; exact h1
  · rw [List.getElem?_append_right (by omega)] at hc
    obtain ⟨ad, e, h1⟩ := k _ _ hc; cases e
    have : (⟨g, off + cs.length, none⟩ : Addr).add (i - cs.length) = (⟨g, off, none⟩ : Addr).add i := by
      unfold Addr.add; split <;> split <;> simp_all <;> omega
    rw [← this]; exact h1
theorem below_drewN {B : Nat} {w W : World} (h : Below B w W) (n : Nat) : Below B w (W.drewN n) := ⟨h.os, h.tape, h.output, h.size, h.block⟩
theorem below_step {w w1 w2 : World} (h : Below w.heap.size w w1) (k : Below w1.heap.size w1 w2) : Below w.heap.size w w2 := h.trans (k.mono h.size)
theorem below_alloc {w W : World} (h : Below w.heap.size w W) (o : Obj) : Below w.heap.size w (W.alloc o) := h.alloc h.size o
theorem below_of_grown {w w1 : World} {row : Option Nat} (hg : w.grownBy w1 row) (hr : ∀ k, row = some k → w.heap.size ≤ k) : Below w.heap.size w w1 := (Below.refl _ _).grown hg (Nat.le_refl _) hr
theorem own_lower {w : World} {base base' : Nat} {e : TypeId} {size n : Nat} {v : Value} {xs : List Value} (h : w.ownsRow base e size v n xs) (hb : base' ≤ base) : w.ownsRow base' e size v n xs := by
  refine ⟨h.1, ?_⟩
  rcases h.2 with h2 | ⟨g, cap, cur, hv, hg, r⟩
  · exact .inl h2
  · exact .inr ⟨g, cap, cur, hv, Nat.le_trans hb hg, r⟩
theorem own_base {w : World} {base : Nat} {e : TypeId} {size n : Nat} {v : Value} {xs : List Value} (h : w.ownsRow base e size v n xs) (k : Nat) (hk : v.ownBlock = some k) : base ≤ k := (h.lt k hk).1
/-- the value is new memory that holds these cells -/
def New (w w' : World) (e : TypeId) (v : Value) (n : Nat) (xs : List Value) : Prop := Below w.heap.size w w' ∧ w'.ownsRow w.heap.size e 1 v n xs
theorem ret_int {k : IntKind} {a b : Int} (h : a = b) : Ending.returned (.int k a) = .returned (.int k b) := by rw [h]
theorem u8_wf {n : Int} (h : (Lit.int .u8 n).wf = true) : 0 ≤ n ∧ n ≤ 255 := by
  simp [Lit.wf, IntKind.min, IntKind.max, IntKind.signed, IntKind.bits] at h; omega
theorem i64_wf {n : Int} (h : (Lit.int .i64 n).wf = true) : -9223372036854775808 ≤ n ∧ n ≤ 9223372036854775807 := by
  simp [Lit.wf, IntKind.min, IntKind.max, IntKind.signed, IntKind.bits] at h; omega
theorem u8_wf' {n : Int} (h : (Lit.int .u8 n).wf = true) : ∃ x : UInt8, n = (x.toNat : Int) := by
  have := u8_wf h
  exact ⟨UInt8.ofNat n.toNat, by rw [show (UInt8.ofNat n.toNat).toNat = n.toNat by simp; omega]; omega⟩
theorem le_alloc {w : World} {o : Obj} {n : Nat} (h : n ≤ w.heap.size) : n ≤ (w.alloc o).heap.size := by
  show n ≤ (Array.push _ _).size
  rw [Array.size_push]; omega
section laws
variable {P : Program} {ops : Array Oper} {rest : List Oper} {o : Oper} {a : Act} {Q : Exit → Act → World → Prop}
/-- where an append's row lies: where it lay, or in new memory -/
theorem append_block {w : World} (base : Nat) (t ty e : TypeId) (i : TypeInfo) (z : Value) (size bytes : Nat) (ht : P.underlying t = some (.slice e)) (hi : P.info? e = some i) (hz : i.zero = some z)
    (hsize : i.size = size) (hby : i.bytes = bytes) (v : Value) (n : Nat) (xs : List Value) (hown : w.ownsRow base e size v n xs)
    (ad : Addr) (m c : Nat) (news : List Value) (hl : news.length = m * size) (hnews : ∀ j u, news[j]? = some u → w.cell? (ad.add j) = some u) (h1 : ∀ u ∈ news, u.oneCell' = true)
    (h63 : n + m ≤ maxLen) (hbytes : (n + m) * bytes ≤ 140737488355328) (hm : 0 < m) {v' : Value} {w' : World}
    (hr : (Builtin.append_ #[t, t] ty #[v, .slice (some ad) m c]).run P w = .ok v' w') : ∀ k, v'.ownBlock = some k → v.ownBlock = some k ∨ w.heap.size ≤ k := by
  subst hsize
  subst hby
  have hsmall : n + m ≤ 9223372036854775807 := by simp only [maxLen] at h63; omega
  rcases hown.2 with ⟨rfl, rfl⟩ | ⟨g, cap, cur, rfl, hbg, hg, hnc, hcm, hcs, htake⟩
  · have h := run_append_nil (P := P) w t ty e i z ht hi hz ad m c news hl hnews hm (by omega) (by have hb := hbytes; simp only [Nat.zero_add] at hb; omega)
    rw [h] at hr; cases hr
    intro k hk; simp [Value.ownBlock] at hk; exact .inr (by omega)
  · by_cases hroom : n + m ≤ cap
    · have hfit : n * i.size + news.length ≤ cur.size := by rw [hl, hcs, ← Nat.add_mul]; exact Nat.mul_le_mul_right _ hroom
      have h := run_append_room (P := P) w t ty e i ht hi g n cap cur hg ad m c news hl hnews h1 hroom hfit
      rw [h] at hr; cases hr
      intro k hk; exact .inl hk
    · have holds : ∀ j u, xs[j]? = some u → w.cell? ((⟨g, 0, none⟩ : Addr).add j) = some u := hown.cells (g := g) rfl
      have h := run_append_grow (P := P) w t ty e i z ht hi hz ⟨g, 0, none⟩ n cap xs hown.1 holds ad m c news hl hnews (by omega) (by omega) (growslice_fits (by omega) hbytes)
      rw [h] at hr; cases hr
      intro k hk; simp [Value.ownBlock] at hk; exact .inr (by omega)
/-- 'append(out, x)', one element of one cell: what is owned grows by it -/
theorem append1 {w0 W : World} (hgd : o.guard = none) (s x : Operand) (t e : TypeId) (z : Value) (bytes : Nat)
    (ho : o.op = .call { callee := .builtin .append, args := #[s, x], argTypes := #[t, t] })
    (ht : P.underlying t = some (.slice e)) (hinfo : (P.info? e).map (fun i => (i.zero, i.size, i.bytes)) = some (some z, 1, bytes)) (hz1 : z.cells.size = 1)
    (v : Value) (n : Nat) (xs : List Value) (hs : a.eval s = v) (u : Value) (hu : u.oneCell' = true) (hx : a.eval x = .slice (some ⟨W.heap.size, 0, none⟩) 1 1)
    (base : Nat) (hown : W.ownsRow base e 1 v n xs) (hb : Below base w0 W) (hbase : base ≤ W.heap.size) (hn : (n + 1) * bytes ≤ 140737488355328) (hn2 : n + 1 ≤ maxLen)
    (h : ∀ v' w', w'.ownsRow base e 1 v' (n + 1) (xs ++ [u]) → Below base w0 w' → W.grownBy w' v.ownBlock → (∀ k, v'.ownBlock = some k → v.ownBlock = some k ∨ W.heap.size ≤ k) → wpList P ops Q rest (a.put o.dst v') w') :
    wpList P ops Q (o :: rest) a (W.alloc (.cells #[u] e)) := by
  obtain ⟨i, hi, hz, hsz, hby⟩ := info_parts hinfo
  have hown' := hown.alloc (.cells #[u] e)
  have hnews : ∀ j q, [u][j]? = some q → (W.alloc (.cells #[u] e)).cell? ((⟨W.heap.size, 0, none⟩ : Addr).add j) = some q := by
    intro j q hj
    cases j with
    | zero =>
      simp at hj; subst hj
      have : (⟨W.heap.size, 0, none⟩ : Addr).add 0 = ⟨W.heap.size, 0, none⟩ := by simp [Addr.add]
      rw [this, cell_of_row _ _ _ _ _ _ (heap_alloc_new W _)]; rfl
    | succ j => simp at hj
  have h1 : ∀ q ∈ [u], q.oneCell' = true := by intro q hq; simp at hq; subst hq; exact hu
  obtain ⟨v', w', hrun, h2, h3, h4⟩ := run_append_own (P := P) _ base t o.type e i z 1 bytes ht hi hz hsz hby hz1 (by decide) v n xs hown' ⟨W.heap.size, 0, none⟩ 1 1 [u] rfl hnews h1 hn2 hn (le_alloc hbase)
  have h5 := append_block (P := P) base t o.type e i z 1 bytes ht hi hz hsz hby v n xs hown' ⟨W.heap.size, 0, none⟩ 1 1 [u] rfl hnews h1 hn2 hn (by omega) hrun
  refine wpList_plain hgd fun K hK => ?_
  unfold Oper.wp
  simp [execOp, ho, resolve, invoke, builtin, hs, hx, hrun, Result.andThen]
  refine hK _ _ (h v' w' h2 ((hb.alloc hbase _).grown h3 (le_alloc hbase) (fun k hk => own_base hown k hk)) ?_ ?_)
  · exact ⟨h3.os, h3.tape, h3.output, Nat.le_trans (le_alloc (Nat.le_refl _)) h3.size, fun k hk hne => by
      rw [h3.block k (Nat.lt_of_lt_of_le hk (le_alloc (Nat.le_refl _))) hne]; exact Below.heap_alloc _ _ _ hk⟩
  · intro k hk
    rcases h5 k hk with h5 | h5
    · exact .inl h5
    · exact .inr (Nat.le_trans (le_alloc (Nat.le_refl _)) h5)
/-- an operation that is wanted is as one without a guard -/
theorem wanted_plain {w : World} (hw : Region.wanted o (yielded ops a.tmps) = true) (h : wpList P ops Q ({ o with guard := none } :: rest) a w) : wpList P ops Q (o :: rest) a w := by
  unfold wpList at h ⊢
  rw [if_pos hw]
  rw [if_pos (by simp [Region.wanted])] at h
  exact h
theorem run_append_zero {w : World} (base : Nat) (t ty e : TypeId) (i : TypeInfo) (size : Nat) (ht : P.underlying t = some (.slice e)) (hi : P.info? e = some i)
    (v : Value) (n : Nat) (xs : List Value) (hown : w.ownsRow base e size v n xs) (A : Option Addr) (c : Nat) :
    (Builtin.append_ #[t, t] ty #[v, .slice A 0 c]).run P w = .ok v w := by
  have hf : ∀ s, (Builtin.firstCells s 0 (.slice A 0 c)).run P w = .ok #[] w := by
    intro s
    cases A with
    | none => exact run_firstCells_none w s 0 0 c
    | some a => exact run_firstCells_some w s 0 a 0 c [] (by simp) (by simp)
  rcases hown.2 with ⟨rfl, rfl⟩ | ⟨g, cap, cur, rfl, _, _, hnc, _⟩
  · simp [Builtin.append_, run_underlying ht, sizeOf, typeInfo, hi, Builtin.lenOf, hf]
  · simp [Builtin.append_, run_underlying ht, sizeOf, typeInfo, hi, Builtin.lenOf, hf, hnc, storeCells]
/-- 'append(out, x...)' onto what is owned, from any slice -/
theorem append_any {w0 W : World} (hgd : o.guard = none) (s x : Operand) (t e : TypeId) (z : Value) (size bytes : Nat)
    (ho : o.op = .call { callee := .builtin .append, args := #[s, x], argTypes := #[t, t] })
    (ht : P.underlying t = some (.slice e)) (hinfo : (P.info? e).map (fun i => (i.zero, i.size, i.bytes)) = some (some z, size, bytes)) (hz1 : z.cells.size = size) (hsz : 0 < size)
    (v : Value) (n : Nat) (xs : List Value) (hs : a.eval s = v) (A : Option Addr) (m c : Nat) (news : List Value) (hx : a.eval x = .slice A m c) (hl : news.length = m * size) (hr : Rd W A news) (h1 : ∀ u ∈ news, u.oneCell' = true)
    (base : Nat) (hown : W.ownsRow base e size v n xs) (hb : Below base w0 W) (hbase : base ≤ W.heap.size) (hn : (n + m) * bytes ≤ 140737488355328) (hn2 : n + m ≤ maxLen)
    (h : ∀ v' w', w'.ownsRow base e size v' (n + m) (xs ++ news) → Below base w0 w' → W.grownBy w' v.ownBlock → (∀ k, v'.ownBlock = some k → v.ownBlock = some k ∨ W.heap.size ≤ k) → wpList P ops Q rest (a.put o.dst v') w') :
    wpList P ops Q (o :: rest) a W := by
  obtain ⟨i, hi, hz, hsz', hby⟩ := info_parts hinfo
  by_cases hm : m = 0
  · subst hm
    have : news = [] := List.eq_nil_of_length_eq_zero (by simpa using hl)
    subst this
    have hrun := run_append_zero (P := P) base t o.type e i size ht hi v n xs hown A c
    refine wpList_plain hgd fun K hK => ?_
    unfold Oper.wp
    simp [execOp, ho, resolve, invoke, builtin, hs, hx, hrun, Result.andThen]
    exact hK _ _ (h v W (by simpa using hown) hb (World.grownBy.refl W _) (fun _ hk => .inl hk))
  · have hpos : 0 < news.length := by rw [hl]; exact Nat.mul_pos (by omega) hsz
    obtain ⟨ad, rfl, _⟩ := hr 0 news[0] (by simp [hpos])
    have hnews : ∀ j u, news[j]? = some u → W.cell? (ad.add j) = some u := by
      intro j u hu
      obtain ⟨ad', e', h'⟩ := hr j u hu
      cases e'; exact h'
    obtain ⟨v', w', hrun, h2, h3, h4⟩ := run_append_own (P := P) W base t o.type e i z size bytes ht hi hz hsz' hby hz1 hsz v n xs hown ad m c news hl hnews h1 hn2 hn hbase
    have h5 := append_block (P := P) base t o.type e i z size bytes ht hi hz hsz' hby v n xs hown ad m c news hl hnews h1 hn2 hn (by omega) hrun
    refine wpList_plain hgd fun K hK => ?_
    unfold Oper.wp
    simp [execOp, ho, resolve, invoke, builtin, hs, hx, hrun, Result.andThen]
    exact hK _ _ (h v' w' h2 (hb.grown h3 hbase (fun k hk => own_base hown k hk)) h3 h5)
end laws
end Go.Proofs.Ytohgmggdfmjgnaa
