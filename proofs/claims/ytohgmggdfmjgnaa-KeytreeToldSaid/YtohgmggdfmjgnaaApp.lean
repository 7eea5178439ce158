/- Texts put together. -/
import Derived.Test.YtohgmggdfmjgnaaDraw
import Derived.Lib.AppendZerosOnto
import Derived.Lib.AppendZeros
set_option linter.unusedVariables false
set_option linter.unusedSimpArgs false
namespace Go.Proofs.Ytohgmggdfmjgnaa
open Go.RowKit
section
section
variable {P : Program} {ops : Array Oper} {rest : List Oper} {o : Oper} {Q : Exit → Act → World → Prop} {N : Nat} {w0 w w' : World} {B : Nat → Prop} {ρ ρ' : Slots} {L L' : List Ch} {a a' : Act} {d : Nat} {u v : Value}
/-- an operation on two whole numbers -/
def IB (op : BinOp) (k1 : IntKind) (m : Int) (k2 : IntKind) (n : Int) (v : Value) : Prop := ∀ (P : Program) (t : TypeId) (w : World), (binOp op t (.int k1 m) (.int k2 n)).run P w = .ok v w
theorem x_bin (h : Knows N ρ a) {op : BinOp} {t t2 : TypeId} {x y : Operand} (ho : o.op = .binOp op t x y t2) {k1 k2 : IntKind} {m n : Int} (hx : ev ρ x = some (.int k1 m)) (hy : ev ρ y = some (.int k2 n)) (hv : IB op k1 m k2 n v) : (execOp a.eval o).run P w = .ok (.value v) w := by
  have he : (eqGuard op t x y (.int k1 m) (.int k2 n)).run P w = .ok () w := by cases op <;> rfl
  simp [execOp, ho, h.eval hx, h.eval hy, he, hv P t w]
theorem s_bin (h : St N w0 B ρ L a w) (hg : o.guard = none) {op : BinOp} {t t2 : TypeId} {x y : Operand} (ho : o.op = .binOp op t x y t2) (hd : o.dst = some d) (hN : d < N) {k1 k2 : IntKind} {m n : Int} (hx : ev ρ x = some (.int k1 m)) (hy : ev ρ y = some (.int k2 n)) (hv : IB op k1 m k2 n v)
    (k : ∀ a', St N w0 B ((d, v) :: ρ) L a' w → wpList P ops Q rest a' w) : wpList P ops Q (o :: rest) a w :=
  s_of h hg hd hN (x_bin h.k ho hx hy hv) (fun a' hk => k a' ⟨hk, h.m⟩)
theorem ib_add {k : IntKind} {m n r : Int} (h : k.wrap (m + n) = r) : IB .add k m k n (.int k r) := fun _ _ _ => by subst h; simp [binOp, Op.intArith]
theorem ib_sub {k : IntKind} {m n r : Int} (h : k.wrap (m - n) = r) : IB .sub k m k n (.int k r) := fun _ _ _ => by subst h; simp [binOp, Op.intArith]
theorem ib_mul {k : IntKind} {m n r : Int} (h : k.wrap (m * n) = r) : IB .mul k m k n (.int k r) := fun _ _ _ => by subst h; simp [binOp, Op.intArith]
theorem nw64 {x : Int} (h : -9223372036854775808 ≤ x ∧ x ≤ 9223372036854775807) : IntKind.i64.wrap x = x := by rw [IntKind.wrap_i64]; omega
theorem nwu64 {x : Int} (h : 0 ≤ x ∧ x ≤ 18446744073709551615) : IntKind.u64.wrap x = x := by rw [IntKind.wrap_u64]; omega
theorem nwu32 {x : Int} (h : 0 ≤ x ∧ x ≤ 4294967295) : IntKind.u32.wrap x = x := by rw [IntKind.wrap_u32]; omega
theorem ib_rem {m n : Int} (h : 0 ≤ m ∧ 0 < n) : IB .rem .i64 m .i64 n (.int .i64 (m % n)) := fun _ _ _ => by
  have hn : n ≠ 0 := by omega
  simp [binOp, Op.intDiv, hn, Int.tmod_eq_emod_of_nonneg h.1]
theorem ib_quow {k : IntKind} {m n : Int} (h : n ≠ 0) : IB .quo k m k n (.int k (k.wrap (m.tdiv n))) := fun _ _ _ => by simp [binOp, Op.intDiv, h]
theorem ib_remw {k : IntKind} {m n : Int} (h : n ≠ 0) : IB .rem k m k n (.int k (m.tmod n)) := fun _ _ _ => by simp [binOp, Op.intDiv, h]
theorem ib_lss {k : IntKind} {m n : Int} : IB .lss k m k n (.bool (decide (m < n))) := fun _ _ _ => by simp [binOp, Op.intCmp]
theorem ib_leq {k : IntKind} {m n : Int} : IB .leq k m k n (.bool (decide (m ≤ n))) := fun _ _ _ => by simp [binOp, Op.intCmp]
theorem ib_gtr {k : IntKind} {m n : Int} : IB .gtr k m k n (.bool (decide (n < m))) := fun _ _ _ => by simp [binOp, Op.intCmp]
theorem ib_geq {k : IntKind} {m n : Int} : IB .geq k m k n (.bool (decide (n ≤ m))) := fun _ _ _ => by simp [binOp, Op.intCmp]
theorem ib_eql {k : IntKind} {m n : Int} : IB .eql k m k n (.bool (decide (m = n))) := fun _ _ _ => by
  have : (m == n) = decide (m = n) := by cases h : decide (m = n) <;> simp_all
  simp [binOp, Op.intCmp, this]
theorem ib_neq {k : IntKind} {m n : Int} : IB .neq k m k n (.bool (decide (m ≠ n))) := fun _ _ _ => by
  have : (m != n) = decide (m ≠ n) := by cases h : decide (m = n) <;> simp_all
  simp [binOp, Op.intCmp, this]
theorem ib_and {k : IntKind} {m n r : Int} (h : bits .and k m n = r) : IB .and k m k n (.int k r) := fun _ _ _ => by subst h; simp [binOp, Op.intBits, bits]
theorem ib_or {k : IntKind} {m n r : Int} (h : bits .or k m n = r) : IB .or k m k n (.int k r) := fun _ _ _ => by subst h; simp [binOp, Op.intBits, bits]
theorem ib_xor {k : IntKind} {m n r : Int} (h : bits .xor k m n = r) : IB .xor k m k n (.int k r) := fun _ _ _ => by subst h; simp [binOp, Op.intBits, bits]
theorem ib_shl {k k2 : IntKind} {m n r : Int} (hn : 0 ≤ n) (h : k.wrap (m * 2 ^ (min n.toNat k.bits)) = r) : IB .shl k m k2 n (.int k r) := fun _ _ _ => by
  subst h
  have : ¬ n < 0 := by omega
  simp [binOp, Op.shift, this]
theorem ib_shr {k k2 : IntKind} {m n r : Int} (hn : 0 ≤ n) (h : m / 2 ^ (min n.toNat k.bits) = r) : IB .shr k m k2 n (.int k r) := fun _ _ _ => by
  subst h
  have : ¬ n < 0 := by omega
  have e : m.fdiv (2 ^ min n.toNat k.bits) = m / 2 ^ min n.toNat k.bits := Int.fdiv_eq_ediv_of_nonneg _ (by exact Int.le_of_lt (Int.pow_pos (by decide)))
  simp [binOp, Op.shift, this, e]
theorem l_split (n : Nat) {l : List Oper} (R : Act → World → Prop) (h1 : wpList P ops (Exit.then R Q) (l.take n) a w) (h2 : ∀ a w, R a w → wpList P ops Q (l.drop n) a w) : wpList P ops Q l a w := by
  induction l generalizing a w n with
  | nil =>
    have := h2 a w (by simpa [wpList, Exit.then] using h1)
    simpa using this
  | cons o l ih =>
    cases n with
    | zero => exact h2 _ _ h1
    | succ n =>
      simp only [List.take_succ_cons, List.drop_succ_cons] at h1 h2
      unfold wpList at h1 ⊢
      split
      · rename_i hw
        rw [if_pos hw] at h1
        rcases h1 with h1 | ⟨h1, h3⟩
        · refine .inl ?_
          have h4 : o.wp P a w (wpList P ops Q l) (Exit.then R Q) := Oper.wp_mono (fun a w h => ih n h h2) h1
          unfold Oper.wp at h4 ⊢
          generalize (execOp a.eval o).run P w = r at h4 ⊢
          cases r with
          | ok n w' =>
            cases n <;> simp only [Oper.upon] at h4 ⊢ <;> first
              | exact h4
              | exact Calls.mono h4 (fun e w'' he => by cases e <;> exact he)
              | exact Rows.mono h4 (fun _ _ he => he)
          | halt x w' => cases x <;> simp only [Oper.upon] at h4 ⊢ <;> exact h4
        · exact .inr ⟨h1, h3⟩
      · rename_i hw
        rw [if_neg hw] at h1
        exact ih n h1 h2
/-- 'x || y', 'x && y': n operations that are wanted if x is so -/
theorem s_or (h : St N w0 B ρ L a w) (n : Nat) {l : List Oper} {t : Nat} {b c : Bool} (hb : ρ.lookup t = some (.bool b)) (h1 : b = true → wpList P ops (Exit.then (fun a' w' => St N w0 B ((d, .bool true) :: ρ) L a' w') Q) (l.take n) a w)
    (h0 : b = false → wpList P ops (Exit.then (fun a' w' => St N w0 B ((d, .bool c) :: ρ) L a' w') Q) (l.take n) a w) (k : ∀ a' w', St N w0 B ((d, .bool (b || c)) :: ρ) L a' w' → wpList P ops Q (l.drop n) a' w') : wpList P ops Q l a w := by
  refine l_split n (fun a' w' => St N w0 B ((d, .bool (b || c)) :: ρ) L a' w') ?_ k
  cases b
  · exact h0 rfl
  · exact h1 rfl
/-- an operation under a guard that says yes, no -/
theorem g_yes (h : St N w0 B ρ L a w) {j : Nat} {want : Bool} (hg : o.guard = some (j, want)) {oj : Oper} (hj : ops[j]? = some oj) {t : Nat} (ht : oj.dst = some t) {b : Bool} (hb : ρ.lookup t = some (.bool b)) (hw : b = want) (k : wpList P ops Q ({ o with guard := none } :: rest) a w) : wpList P ops Q (o :: rest) a w :=
  wanted_plain (by rw [wanted_of h hg hj ht hb, hw]; simp) k
theorem g_no (h : St N w0 B ρ L a w) {j : Nat} {want : Bool} (hg : o.guard = some (j, want)) {oj : Oper} (hj : ops[j]? = some oj) {t : Nat} (ht : oj.dst = some t) {b : Bool} (hb : ρ.lookup t = some (.bool b)) (hw : b = !want) (hd : o.dst = some d) (hN : d < N) (k : ∀ a', St N w0 B ((d, undef) :: ρ) L a' w → wpList P ops Q rest a' w) : wpList P ops Q (o :: rest) a w :=
  s_skip h (by rw [wanted_of h hg hj ht hb, hw]; cases want <;> rfl) hd hN k
/-- under a guard on an operation that was itself not wanted -/
theorem g_off (h : St N w0 B ρ L a w) {j : Nat} {want : Bool} (hg : o.guard = some (j, want)) {oj : Oper} (hj : ops[j]? = some oj) {t : Nat} (ht : oj.dst = some t) (hb : ρ.lookup t = some undef) (hd : o.dst = some d) (hN : d < N) (k : ∀ a', St N w0 B ((d, undef) :: ρ) L a' w → wpList P ops Q rest a' w) : wpList P ops Q (o :: rest) a w :=
  s_skip h (by have := h.k.at_ t _ hb; simp [Region.wanted, hg, yielded, hj, ht, this, undef]) hd hN k
theorem c_cut {x y : Code} (R : Act → World → Prop) (h1 : x.wp P (Exit.then R Q) a w) (h2 : ∀ a w, R a w → y.wp P Q a w) : (Code.seq x y).wp P Q a w :=
  wp_seq (Code.wp_mono (fun e a w h => by cases e <;> first | exact h2 _ _ h | exact h) h1)
/-- a guard's word is known from here on -/
theorem d_split {S : World → Prop} {wr : Nat} {listed : Array Bool} {fuel : Nat} (h : St N w0 B ρ L a w) {t : Nat} {b : Bool} (hb : ρ.lookup t = some (.bool b)) (k1 : b = true → AnyW P ops Q S wr fuel listed a w) (k0 : b = false → AnyW P ops Q S wr fuel listed a w) : AnyW P ops Q S wr fuel listed a w := by
  cases b
  · exact k0 rfl
  · exact k1 rfl
theorem g_want (h : St N w0 B ρ L a w) {j : Nat} {want : Bool} (hg : o.guard = some (j, want)) {oj : Oper} (hj : ops[j]? = some oj) {t : Nat} (ht : oj.dst = some t) {b c : Bool} (hb : ρ.lookup t = some (.bool b)) (hB : b = c) : Region.wanted o (yielded ops a.tmps) = (c == want) := by
  rw [wanted_of h hg hj ht hb, hB]
/-- a code's end, cut -/
theorem c_fin {c : Code} (R : Act → World → Prop) (h1 : c.wp P (Exit.then R Q) a w) (h2 : ∀ a w, R a w → Q .normal a w) : c.wp P Q a w :=
  Code.wp_mono (fun e a w h => by cases e <;> first | exact h2 _ _ h | exact h) h1
theorem x_not (h : Knows N ρ a) {x : Operand} {t : TypeId} (ho : o.op = .unOp .not t x) {b : Bool} (hx : ev ρ x = some (.bool b)) : (execOp a.eval o).run P w = .ok (.value (.bool (!b))) w := by simp [execOp, ho, h.eval hx, Op.unary]
theorem x_pick (h : Knows N ρ a) {c x y : Operand} (ho : o.op = .pick c x y) {b : Bool} (hc : ev ρ c = some (.bool b)) {u' : Value} (hx : b = true → ev ρ x = some v) (hy : b = false → ev ρ y = some v) : (execOp a.eval o).run P w = .ok (.value v) w := by
  cases b <;> simp [execOp, ho, h.eval hc, asBool]
  · rw [h.eval (hy rfl)]
  · rw [h.eval (hx rfl)]
theorem s_pick (h : St N w0 B ρ L a w) (hg : o.guard = none) {c x y : Operand} (ho : o.op = .pick c x y) (hd : o.dst = some d) (hN : d < N) {b : Bool} (hc : ev ρ c = some (.bool b)) (hx : b = true → ev ρ x = some v) (hy : b = false → ev ρ y = some v) (k : ∀ a', St N w0 B ((d, v) :: ρ) L a' w → wpList P ops Q rest a' w) : wpList P ops Q (o :: rest) a w :=
  s_of h hg hd hN (x_pick (u' := undef) h.k ho hc hx hy) (fun a' hk => k a' ⟨hk, h.m⟩)
theorem x_ext (h : Knows N ρ a) {x : Operand} {i : Nat} (ho : o.op = .extract x i) {vs : Array Value} (hx : ev ρ x = some (.tuple vs)) (hv : vs[i]? = some v) : (execOp a.eval o).run P w = .ok (.value v) w := by simp [execOp, ho, h.eval hx, Instr.extract, hv]
theorem s_ext (h : St N w0 B ρ L a w) (hg : o.guard = none) {x : Operand} {i : Nat} (ho : o.op = .extract x i) (hd : o.dst = some d) (hN : d < N) {vs : Array Value} (hx : ev ρ x = some (.tuple vs)) (hv : vs[i]? = some v) (k : ∀ a', St N w0 B ((d, v) :: ρ) L a' w → wpList P ops Q rest a' w) : wpList P ops Q (o :: rest) a w :=
  s_of h hg hd hN (x_ext h.k ho hx hv) (fun a' hk => k a' ⟨hk, h.m⟩)
theorem x_nil (h : Knows N ρ a) {x : Operand} (ho : o.op = .nilCheck x) {p : Addr} (hx : ev ρ x = some (.pointer (some p))) : (execOp a.eval o).run P w = .ok (.value (.pointer (some p))) w := by simp [execOp, ho, h.eval hx]
theorem Mem.tail {x : Ch} (h : Mem w0 B (x :: L) w) : Mem w0 B L w :=
  ⟨h.chg, fun i y hy => h.ok (i + 1) y (by simpa using hy), fun i j y z hne hy hz => h.apart (i + 1) (j + 1) y z (by omega) (by simpa using hy) (by simpa using hz), fun i y hy => h.base (i + 1) y (by simpa using hy)⟩
end
end
section
section
variable {P : Program} {ops : Array Oper} {rest : List Oper} {o : Oper} {Q : Exit → Act → World → Prop} {N : Nat} {w0 w w' : World} {B : Nat → Prop} {ρ ρ' : Slots} {L L' : List Ch} {a a' : Act} {d : Nat} {u v : Value}
/-- append(v, make([]T, m)...), cells of one -/
theorem run_appendZ (w : World) (t tn ty e : TypeId) (i : TypeInfo) (z : Value) (bytes : Nat) (kq kn : IntKind) (ht : P.underlying t = some (.slice e)) (htn : P.underlying tn = some (.int kn)) (hi : P.info? e = some i) (hz : i.zero = some z) (hs1 : i.size = 1) (hby : i.bytes = bytes) (hz1 : z.cells = #[z]) (h1 : z.oneCell' = true)
    (v : Value) (n : Nat) (xs : List Value) (hown : w.ownsRow 0 e 1 v n xs) (m : Nat) (h63 : n + m ≤ maxLen) (hbytes : (n + m) * bytes ≤ 140737488355328) :
    ∃ v' w', (Builtin.append_ #[t, tn] ty #[v, .int kq m]).run P w = .ok v' w' ∧ w'.ownsRow 0 e 1 v' (n + m) (xs ++ List.replicate m z) ∧ w.grownBy w' v.ownBlock ∧ (∀ k, v'.ownBlock = some k → v.ownBlock = some k ∨ w.heap.size ≤ k) := by
  have hsmall : n + m ≤ 9223372036854775807 := by simp only [maxLen] at h63; omega
  have hzc : (Builtin.zeroCells z.cells m).toList = List.replicate m z := by
    rw [hz1]
    apply List.ext_getElem
    · simp [Builtin.zeroCells]
    · intro j h1 h2; simp [Builtin.zeroCells, Nat.mod_one]
  have hw : IntKind.i64.wrap (m : Int) = m := by rw [IntKind.wrap_i64]; omega
  have hmb : m * bytes ≤ 140737488355328 := Nat.le_trans (Nat.mul_le_mul_right _ (Nat.le_add_left m n)) hbytes
  have hw0 : IntKind.i64.wrap 0 = 0 := by rw [IntKind.wrap_i64]; omega
  by_cases hm : m = 0
  · subst hm
    refine ⟨v, w, ?_, by simpa using hown, World.grownBy.refl w _, fun _ h => .inl h⟩
    rcases hown.2 with ⟨rfl, rfl⟩ | ⟨g, cap, cur, rfl, _, _, hnc, _⟩
    · simp [Builtin.append_, run_underlying ht, run_underlying htn, sizeOf, typeInfo, hi, hs1, asInt, asIntOf, storeCells, hw0]
    · simp [Builtin.append_, run_underlying ht, run_underlying htn, sizeOf, typeInfo, hi, hs1, asInt, asIntOf, storeCells, hnc, hw0]
  · have grown : ∀ old row, old < n + m → (w.drew.alloc (.cells (xs.toArray ++ Builtin.zeroCells z.cells m ++ Builtin.zeroCells z.cells (grownCap w (n + m) old e - (n + m))) e)).ownsRow 0 e 1 (.slice (some ⟨w.heap.size, 0, none⟩) (n + m) (grownCap w (n + m) old e)) (n + m) (xs ++ List.replicate m z) ∧
        w.grownBy (w.drew.alloc (.cells (xs.toArray ++ Builtin.zeroCells z.cells m ++ Builtin.zeroCells z.cells (grownCap w (n + m) old e - (n + m))) e)) row := by
      intro old row ho
      have hge := grownCap_ge w (n + m) old e
      have hcm : grownCap w (n + m) old e ≤ maxLen := grownCap_le_maxLen w (n + m) old e h63
      have hxl : xs.length = n := by have := hown.1; omega
      refine ⟨⟨by simp [hxl], .inr ⟨w.heap.size, _, _, rfl, Nat.zero_le _, heap_alloc_new w.drew _, hge, hcm, ?_, ?_⟩⟩, ⟨rfl, rfl, rfl, by simp, fun k hk _ => heap_alloc_old w.drew _ hk⟩⟩
      · simp [size_zeroCells, hz1, hxl]; omega
      · simp only [Array.toList_append, hzc, Nat.mul_one]
        rw [show n + m = (xs ++ List.replicate m z).length by simp [hxl]]
        exact List.take_left
    rcases hown.2 with ⟨rfl, rfl⟩ | ⟨g, cap, cur, rfl, hbg, hg, hnc, hcm, hcs, htake⟩
    · have hx : xs = [] := List.eq_nil_of_length_eq_zero (by simpa using hown.1)
      subst hx
      have hr := Lib.run_append_nil_zeros (P := P) w t tn ty e i z kq kn ht htn hi hz m (by omega) (by omega) (by omega) (by rw [hby]; omega)
      have hgr := grown 0 (Value.ownBlock (.slice none 0 0)) (by omega)
      simp only [Nat.zero_add, Array.empty_append, List.nil_append] at hgr ⊢
      exact ⟨_, _, hr, hgr.1, hgr.2, fun k hk => .inr (by have : some w.heap.size = some k := hk; cases this; exact Nat.le_refl _)⟩
    · by_cases hroom : n + m ≤ cap
      · have hxl : xs.length = n := by have := hown.1; omega
        have hfit : n + m ≤ cur.size := by rw [hcs]; omega
        have hst := run_storeCells_at P g n e (List.replicate m z) 0 cur w hg (by simpa using hfit) (fun u hu => by rw [(List.mem_replicate.1 hu).2]; exact h1)
        simp only [Nat.add_zero, List.length_replicate] at hst
        have hneg : ¬ ((m : Int) < 0) := by omega
        have h48i : ¬ (281474976710656 < (m : Int) * (i.bytes : Int)) := by rw [← Int.natCast_mul, hby]; omega
        have hadd : (⟨g, 0, none⟩ : Addr).add n = ⟨g, n, none⟩ := by rw [Addr.add_mid]; simp
        refine ⟨.slice (some ⟨g, 0, none⟩) (n + m) cap, w.setRow g (cur.toList.take n ++ List.replicate m z ++ cur.toList.drop (n + m)).toArray, ?_, ⟨by simp [hxl], .inr ⟨g, cap, _, rfl, hbg, setRow_heap w g cur _ e _ hg, hroom, hcm, ?_, ?_⟩⟩, ⟨rfl, rfl, rfl, by simp [World.setRow], fun k _ hk => setRow_other w g k _ (fun e => hk (by simp [Value.ownBlock, e]))⟩, fun k hk => .inl hk⟩
        · have hz2 : (zeroValue e).run P w = .ok z w := by simp [zeroValue, typeInfo, hi, hz]
          simp [Builtin.append_, run_underlying ht, run_underlying htn, sizeOf, typeInfo, hi, hs1, asInt, asIntOf, hw, hneg, h48i, hm, hroom, hz2, hzc, hadd, hst]
        · simp [hcs]; omega
        · have : (cur.toList.take (n * 1)) = xs := htake
          rw [Nat.mul_one] at this
          simp only [List.toList_toArray, this, Nat.mul_one]
          rw [show n + m = (xs ++ List.replicate m z).length by simp [hxl]]
          exact List.take_left
      · have holds : ∀ j u, xs[j]? = some u → w.drew.cell? ((⟨g, 0, none⟩ : Addr).add j) = some u := hown.cells (g := g) rfl
        have hold := run_firstCells_some (P := P) w.drew i.size n ⟨g, 0, none⟩ n cap xs (by rw [hs1]; exact hown.1) holds
        have hr := Lib.run_append_grow_zeros (P := P) w t tn ty e i z kq kn ht htn hi hz (some ⟨g, 0, none⟩) n cap xs hold m (by omega) (by omega) (by omega) (by omega) (by rw [hby]; omega) (growslice_fits (by omega) (by rw [hby]; exact hbytes))
        have hgr := grown cap (Value.ownBlock (.slice (some ⟨g, 0, none⟩) n cap)) (by omega)
        exact ⟨_, _, hr, hgr.1, hgr.2, fun k hk => .inr (by have : some w.heap.size = some k := hk; cases this; exact Nat.le_refl _)⟩
theorem s_appendZ (h : St N w0 B ρ L a w) (hg : o.guard = none) {s x : Operand} {t tn : TypeId} (ho : o.op = .call { callee := .builtin .append, args := #[s, x], argTypes := #[t, tn] }) (hd : o.dst = some d) (hN : d < N) {e : TypeId} (ht : P.underlying t = some (.slice e)) {kn : IntKind} (htn : P.underlying tn = some (.int kn)) {z : Value} {bytes : Nat} (hinfo : (P.info? e).map (fun i => (i.zero, i.size, i.bytes)) = some (some z, 1, bytes)) (hz1 : z.cells = #[z]) (h1 : z.oneCell' = true)
    {v : Value} (hs : ev ρ s = some v) (i : Nat) {n : Nat} {cs : List Value} (hi : L[i]? = some (.row v e 1 n cs)) {kq : IntKind} {j : Int} (hx : ev ρ x = some (.int kq j)) (m : Nat) (hj : j = (m : Int)) (hn : (n + m) * bytes ≤ 140737488355328) (hn2 : n + m ≤ maxLen)
    (k : ∀ a' w' v', St N w0 B ((d, v') :: ρ) (L.set i (.row v' e 1 (n + m) (cs ++ List.replicate m z))) a' w' → wpList P ops Q rest a' w') : wpList P ops Q (o :: rest) a w := by
  subst hj
  obtain ⟨ie, hi1, hi2, hi3, hi4⟩ := info_parts hinfo
  obtain ⟨v', w', hr, hown, hgr, hblk⟩ := run_appendZ (P := P) w t tn o.type e ie z bytes kq kn ht htn hi1 hi2 hi3 hi4 hz1 h1 v n cs (h.m.ok i _ hi) m hn2 hn
  refine Lib.wpList_append_run w hg s x t tn ho v (.int kq m) (h.k.eval hs) (h.k.eval hx) v' w' hr (k _ _ v' ⟨by rw [hd]; exact h.k.put hN, ?_⟩)
  refine h.m.write hi (x := .row v e 1 n cs) (Chg.grown hgr _ (fun k hk => hk)) hown (fun k hk => ?_)
  rcases hblk k hk with h3 | h3
  · exact .inl h3
  · exact .inr h3
/-- copy into a block (cells of one) -/
theorem s_copyB (h : St N w0 B ρ L a w) (hg : o.guard = none) {x y : Operand} {dT sT : TypeId} (ho : o.op = .call { callee := .builtin .copy, args := #[x, y], argTypes := #[dT, sT] }) (hd : o.dst = some d) (hN : d < N) {e : TypeId} (ht : P.underlying dT = some (.slice e)) (hsz : (P.info? e).map (·.size) = some 1)
    {dp sp : Option Addr} {dLen dCap sLen sCap : Nat} (hx : ev ρ x = some (.slice dp dLen dCap)) (hy : ev ρ y = some (.slice sp sLen sCap)) (i : Nat) {g : Nat} (off : Nat) {T : TypeId} {cs : List Value} (hi : L[i]? = some (.box g T cs)) (news : List Value) (hn : news.length = Nat.min sLen dLen)
    (hdp : 0 < news.length → dp = some ⟨g, off, none⟩) (hr : Rd w sp news) (hfit : off + news.length ≤ cs.length) (h1 : ∀ v ∈ news, v.oneCell' = true)
    (k : ∀ a' w', St N w0 B ((d, .int .i64 (news.length : Int)) :: ρ) (L.set i (.box g T (splice cs off news))) a' w' → wpList P ops Q rest a' w') : wpList P ops Q (o :: rest) a w := by
  have hgb : w.heap[g]? = some (.cells cs.toArray T (0, 0)) := h.m.ok i _ hi
  by_cases h0 : news.length = 0
  · obtain rfl : news = [] := List.eq_nil_of_length_eq_zero h0
    refine wpList_copy_nothing hg x y dT sT ho e ht hsz dp sp dLen dCap sLen sCap (h.k.eval hx) (h.k.eval hy) (by simpa using hn.symm) ?_
    refine k _ _ ⟨by rw [hd]; exact h.k.put hN, ?_⟩
    refine h.m.write hi (x := .box g T cs) (Chg.refl w _) ?_ (fun k hk => .inl hk)
    show _ = _
    simpa [splice] using hgb
  · obtain rfl := hdp (by omega)
    have hne : 0 < news.length := by omega
    obtain ⟨ad, rfl, _⟩ := hr 0 news[0] (by simp [hne])
    refine wpList_copy_own hg x y dT sT ho e ht hsz g off dLen dCap ad sLen sCap (h.k.eval hx) (h.k.eval hy) cs.toArray T hgb news hn (fun j v hv => by obtain ⟨ad', e', h'⟩ := hr j v hv; cases e'; exact h') (by simpa using hfit) h1 ?_
    refine k _ _ ⟨by rw [hd]; exact h.k.put hN, ?_⟩
    refine h.m.write hi (x := .box g T cs) ⟨rfl, rfl, rfl, by simp [World.setRow], fun k hk hne => setRow_other w g k _ (fun e => hne e)⟩ ?_ (fun k hk => .inl hk)
    show _ = _
    simpa [splice] using setRow_heap w g _ _ T _ hgb
/-- copy into a row of one's own -/
theorem s_copyR (h : St N w0 B ρ L a w) (hg : o.guard = none) {x y : Operand} {dT sT : TypeId} (ho : o.op = .call { callee := .builtin .copy, args := #[x, y], argTypes := #[dT, sT] }) (hd : o.dst = some d) (hN : d < N) {e : TypeId} (ht : P.underlying dT = some (.slice e)) (hsz : (P.info? e).map (·.size) = some 1)
    {dp sp : Option Addr} {dLen dCap sLen sCap : Nat} (hx : ev ρ x = some (.slice dp dLen dCap)) (hy : ev ρ y = some (.slice sp sLen sCap)) (i : Nat) {g : Nat} (off : Nat) {E : TypeId} {n c : Nat} {cs : List Value} (hi : L[i]? = some (.row (.slice (some ⟨g, 0, none⟩) n c) E 1 n cs)) (news : List Value) (hn : news.length = Nat.min sLen dLen)
    (hdp : 0 < news.length → dp = some ⟨g, off, none⟩) (hr : Rd w sp news) (hfit : off + news.length ≤ n) (h1 : ∀ v ∈ news, v.oneCell' = true)
    (k : ∀ a' w', St N w0 B ((d, .int .i64 (news.length : Int)) :: ρ) (L.set i (.row (.slice (some ⟨g, 0, none⟩) n c) E 1 n (splice cs off news))) a' w' → wpList P ops Q rest a' w') : wpList P ops Q (o :: rest) a w := by
  have hown : w.ownsRow 0 E 1 (.slice (some ⟨g, 0, none⟩) n c) n cs := h.m.ok i _ hi
  by_cases h0 : news.length = 0
  · obtain rfl : news = [] := List.eq_nil_of_length_eq_zero h0
    refine wpList_copy_nothing hg x y dT sT ho e ht hsz dp sp dLen dCap sLen sCap (h.k.eval hx) (h.k.eval hy) (by simpa using hn.symm) ?_
    refine k _ _ ⟨by rw [hd]; exact h.k.put hN, ?_⟩
    refine h.m.write hi (x := .row (.slice (some ⟨g, 0, none⟩) n c) E 1 n cs) (Chg.refl w _) ?_ (fun k hk => .inl hk)
    show World.ownsRow _ _ _ _ _ _ _
    simpa [splice] using hown
  · obtain rfl := hdp (by omega)
    have hne : 0 < news.length := by omega
    obtain ⟨ad, rfl, _⟩ := hr 0 news[0] (by simp [hne])
    rcases hown.2 with ⟨h2, _⟩ | ⟨g', cap, cur, h2, hb, hgb, hnc, hcm, hcs, htake⟩
    · cases h2
    · cases h2
      have hcl : cs.length = n := by have := hown.1; omega
      refine wpList_copy_own hg x y dT sT ho e ht hsz g off dLen dCap ad sLen sCap (h.k.eval hx) (h.k.eval hy) cur E hgb news hn (fun j v hv => by obtain ⟨ad', e', h'⟩ := hr j v hv; cases e'; exact h') (by rw [hcs]; omega) h1 ?_
      refine k _ _ ⟨by rw [hd]; exact h.k.put hN, ?_⟩
      refine h.m.write hi (x := .row (.slice (some ⟨g, 0, none⟩) n c) E 1 n cs) ⟨rfl, rfl, rfl, by simp [World.setRow], fun k hk hne => setRow_other w g k _ (fun e => hne (by rw [e]; rfl))⟩ ⟨by simp [splice]; omega, .inr ⟨g, c, _, rfl, hb, setRow_heap w g _ _ E _ hgb, hnc, hcm, by simp; omega, ?_⟩⟩ (fun k hk => .inl hk)
      rw [Nat.mul_one] at htake ⊢
      simp only [splice]
      rw [← htake]
      rw [List.take_append, List.take_append]
      simp only [List.length_take, Array.length_toList]
      have e1 : min off cur.size = off := by omega
      rw [e1, List.take_take, Nat.min_eq_right (show off ≤ n by omega), List.take_of_length_le (show news.length ≤ n - off by omega), List.take_take, Nat.min_eq_left (show off ≤ n by omega), List.drop_take]
      congr 3
      omega
end
end
end Go.Proofs.Ytohgmggdfmjgnaa
