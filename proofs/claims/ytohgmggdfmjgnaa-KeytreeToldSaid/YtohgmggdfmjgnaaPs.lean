/- Texts put together. -/
import Derived.Test.YtohgmggdfmjgnaaRef5c
import Derived.Test.YtohgmggdfmjgnaaPc
import Derived.Test.YtohgmggdfmjgnaaTy
import Derived.Test.YtohgmggdfmjgnaaPm
import Derived.Test.YtohgmggdfmjgnaaPj
import Derived.Lib.Strings
import Derived.Laws.BytesString
set_option linter.unusedVariables false
set_option linter.unusedSimpArgs false
namespace Go.Proofs.Ytohgmggdfmjgnaa
open Go.RowKit
section
section

set_option maxRecDepth 100000 in
theorem rsum_ok (w0 : World) (A : Option Addr) (p : List UInt8) (c : Nat) (hP : Rd w0 A (by8 p)) (hp : p.length ≤ 1099511627776) :
    Calls Try.prog 79 #[.slice A p.length c] w0 fun e w' => e = .returned (.agg (by8 (shaS p)).toArray) ∧ Below w0.heap.size w0 w' := by
  refine c_enter Try.func79 rfl 9 rfl (by simp) (fun _ => False) _ rfl (fun a h => ?_)
  have h := h.mem (h.m.arg (rdP A (by8 p)) hP (fun _ _ hh => hh))
  refine c_rs ?_
  refine s_alloc h rfl rfl rfl (by decide) zi_A32_uint8 rfl (fun a w g2 h => ?_)
  refine l_end ?_
  refine c_rs ?_
  refine s_bslice1 h rfl rfl rfl (by decide) Try.underlying95 zi_uint32 (vs := ucs beginL) (by kernel_rfl) (by kernel_rfl) (ucs_one _) (by decide) (by decide) (fun a w g4 h => ?_)
  refine sAV h (fun a h => ?_)
  refine l_end ?_
  refine c_rs ?_
  refine s_callN h rfl rfl rfl (by decide) Try.func94 rfl rfl rfl (told_ok w) (fun a w v5 hb h => ?_)
  obtain ⟨g5, c5, rfl, hc5, _⟩ := h.m.rowAt (i := 0) rfl (by omega)
  have hr4 : Rd w (some ⟨g4, 0, none⟩) (ucs beginL) := by have := h.m.rdBox (i := 1) rfl 0; rwa [List.drop_zero] at this
  refine sMV h (fun a h => ?_)
  refine sMV h (fun a h => ?_)
  refine s_callB h rfl rfl rfl (by decide) Try.func93 rfl rfl rfl (with_ok w g5 0 c5 (h.m.rdRowA (i := 0) rfl) (some ⟨g4, 0, none⟩) 8 hr4 A p c (h.m.ok 3 _ rfl) hp) (fun a w hb h => ?_)
  refine s_stW h rfl rfl rfl ag_A32_uint8 rfl rfl (by rw [by8_length, shaS_length]) (by8_one _) 2 rfl (by rfl) (fun a w h => ?_)
  refine l_end ?_
  refine wp_ret ?_
  exact r_ret1 h rfl (rv_cellA h rfl 2 rfl ag_A32_uint8 (by rw [by8_length, shaS_length])) ⟨rfl, h.m.below⟩
end
section
theorem slS_bytes {S : Snap} {A : Option Addr} {c : Nat} {l : List UInt8} {w : World} (h : slS ty8 S A c l) (hw : SnapOK S w) : Rd w A (by8 l) := by
  obtain ⟨_, _, vs, h1, h2⟩ := h
  cases reps8 h2
  exact h1 w hw
theorem slS_lists {S : Snap} {A : Option Addr} {c : Nat} {ls : List (List UInt8)} {w : World} (h : slS (tyL ty8) S A c ls) (hw : SnapOK S w) : RbL w A ls := by
  obtain ⟨_, _, vs, h1, h2⟩ := h
  refine ⟨vs, by rw [h2.len]; show _ * 1 = _; omega, h1 w hw, fun i v l hv hl => ?_⟩
  obtain ⟨u, e1, e2⟩ := h2.cell rfl hl
  cases hv.symm.trans e1
  obtain ⟨A', c', e, hs⟩ := e2
  cases e
  exact ⟨A', c', rfl, hs.1, hs.2.1, slS_bytes hs hw⟩
theorem rep8 (S : Snap) (l : List UInt8) : reps ty8 S (by8 l) l := by
  induction l with
  | nil => rfl
  | cons x l ih => exact ⟨[_], _, rfl, rfl, ih⟩
def sha_Sum (Fu : Nat) (a0 : List (List UInt8)) : Option (List UInt8) := if a0.flatten.length ≤ 1099511627776 then some (shaS a0.flatten) else none
theorem sha_Sum_ok (Fu : Nat) {S0 : Snap} (Aa0 : Option Addr) (ca0 : Nat) (a0 : List (List UInt8)) (hsa0 : slS (tyL ty8) S0 Aa0 ca0 a0) (r : List UInt8) (hf : sha_Sum Fu a0 = some r) (w0 : World) (hm : Mem w0 (ownL ([] ++ [.sn S0])) ([] ++ [.sn S0]) w0) :
    Calls Try.prog 83 #[.slice Aa0 a0.length ca0] w0 (Ret w0 S0 [] (fun v L1 S1 => ∃ (k : List Value), v = .agg k.toArray ∧ L1 = [] ∧ (tyA 32 ty8).rep S1 k r ∧ True)) := by
  have hw := hm.snOK (i := 0) rfl
  unfold sha_Sum at hf
  split at hf
  · rename_i ht
    cases hf
    have h1 := hsa0.1; have h2 := hsa0.2.1
    exact (sum_ok w0 Aa0 a0 ca0 (slS_lists hsa0 hw) (by unfold maxLen at h2; omega) ht).mono fun e w' ⟨he, hb⟩ => ret_below hm he hb ⟨_, rfl, rfl, ⟨rep8 _ _, shaS_length _⟩, trivial⟩
  · cases hf
def chatelaineref05_Sum (Fu : Nat) (a0 : List UInt8) : Option (List UInt8) := if a0.length ≤ 1099511627776 then some (shaS a0) else none
theorem chatelaineref05_Sum_ok (Fu : Nat) {S0 : Snap} (Aa0 : Option Addr) (ca0 : Nat) (a0 : List UInt8) (hsa0 : slS ty8 S0 Aa0 ca0 a0) (r : List UInt8) (hf : chatelaineref05_Sum Fu a0 = some r) (w0 : World) (hm : Mem w0 (ownL ([] ++ [.sn S0])) ([] ++ [.sn S0]) w0) :
    Calls Try.prog 79 #[.slice Aa0 a0.length ca0] w0 (Ret w0 S0 [] (fun v L1 S1 => ∃ (k : List Value), v = .agg k.toArray ∧ L1 = [] ∧ (tyA 32 ty8).rep S1 k r ∧ True)) := by
  have hw := hm.snOK (i := 0) rfl
  unfold chatelaineref05_Sum at hf
  split at hf
  · rename_i ht
    cases hf
    exact (rsum_ok w0 Aa0 a0 ca0 (slS_bytes hsa0 hw) ht).mono fun e w' ⟨he, hb⟩ => ret_below hm he hb ⟨_, rfl, rfl, ⟨rep8 _ _, shaS_length _⟩, trivial⟩
  · cases hf
end
end
section
section
def KT {α β : Type} (k : Kn α) (T : Ty β) (f : α → β) : Prop := ∀ {w : World} {x : α} {cs : List Value}, k.K w x cs → T.rep (snapAll w) cs (f x)
theorem kt_8 : KT Kn.u8 ty8 id := fun h => h
theorem reps_of {β : Type} {T : Ty β} {S : Snap} : ∀ {xs : List β} {C : List (List Value)}, C.length = xs.length → (∀ i (h : i < xs.length) (h' : i < C.length), T.rep S C[i] xs[i]) → reps T S C.flatten xs
  | [], [], _, _ => rfl
  | [], _ :: _, h, _ => by simp at h
  | _ :: _, [], h, _ => by simp at h
  | x :: xs, c :: C, h, k => ⟨c, C.flatten, rfl, k 0 (by simp) (by simp), reps_of (by simpa using h) (fun i hi hi' => k (i + 1) (by simpa using hi) (by simpa using hi'))⟩
theorem kt_at {α β : Type} {k : Kn α} {T : Ty β} {f : α → β} (h : KT k T f) (hs : k.sz = T.sz) (hz : 0 < k.sz) {w : World} {A : Option Addr} {l : List α} (ha : k.At w A l) : ∃ vs, RdS (snapAll w) A vs ∧ reps T (snapAll w) vs (l.map f) := by
  obtain ⟨C, hC, hp⟩ := list_of (n := l.length) (p := fun i cs => ∃ (hi : i < l.length) (b off : Nat), A = some ⟨b, off, none⟩ ∧ k.K w l[i] cs ∧ ∀ j c, cs[j]? = some c → w.cell? ⟨b, off + (i * k.sz + j), none⟩ = some c) (fun i hi => by
    obtain ⟨b, off, cs, h1, _, h3, h4⟩ := ha i hi
    exact ⟨cs, hi, b, off, h1, h3, h4⟩)
  refine ⟨C.flatten, RdS.all ?_, reps_of (by simpa using hC) (fun i hi hi' => ?_)⟩
  · intro q c hq
    have hlen : ∀ i (hi : i < C.length), C[i].length = k.sz := fun i hi => by obtain ⟨_, b, off, _, h3, _⟩ := hp i hi; exact k.len h3
    have key : ∀ (C : List (List Value)) (q : Nat), (∀ i (hi : i < C.length), C[i].length = k.sz) → C.flatten[q]? = some c → ∃ i j, ∃ hi : i < C.length, q = i * k.sz + j ∧ C[i][j]? = some c := by
      intro C
      induction C with
      | nil => intro q _ h; simp at h
      | cons a C ih =>
        intro q hl h
        rw [List.flatten_cons] at h
        by_cases hqa : q < a.length
        · rw [List.getElem?_append_left hqa] at h
          exact ⟨0, q, by simp, by simp, by simpa using h⟩
        · rw [List.getElem?_append_right (by omega)] at h
          obtain ⟨i, j, hi, e, h2⟩ := ih _ (fun i hi => hl (i + 1) (by simpa using hi)) h
          refine ⟨i + 1, j, by simpa using hi, ?_, by simpa using h2⟩
          have := hl 0 (by simp)
          simp at this
          rw [Nat.add_mul]; omega
    obtain ⟨i, j, hi, rfl, h2⟩ := key C q hlen hq
    obtain ⟨_, b, off, hA, _, h4⟩ := hp i hi
    subst hA
    refine ⟨_, rfl, ?_⟩
    have := h4 j c h2
    rw [Addr.add_mid]; exact this
  · obtain ⟨_, b, off, _, h3, _⟩ := hp i hi'
    have := h h3
    simpa using this
theorem kt_slice {α β : Type} {k : Kn α} {T : Ty β} {f : α → β} (h : KT k T f) (hs : k.sz = T.sz) (hz : 0 < k.sz) : KT k.slice (tyL T) (List.map f) := fun ⟨A, c, e, h1, h2, h3⟩ => ⟨A, c, by rw [e, List.length_map], by rw [List.length_map]; exact h1, h2, kt_at h hs hz h3⟩
theorem kt_arr {α β : Type} {k : Kn α} {T : Ty β} {f : α → β} {n : Nat} (h : KT k T f) (hs : k.sz = T.sz) (hz : 0 < k.sz) : KT (k.arr n) (tyA n T) (List.map f) := fun {w x cs} ⟨h1, h2, h3⟩ => by
  refine ⟨?_, by rw [List.length_map]; exact h1⟩
  have key : ∀ (l : List α) (cs : List Value), cs.length = l.length * k.sz → (∀ i (hi : i < l.length), k.K w l[i] ((cs.drop (i * k.sz)).take k.sz)) → reps T (snapAll w) cs (l.map f) := by
    intro l
    induction l with
    | nil => intro cs h _; simpa [reps] using h
    | cons x l ih =>
      intro cs hl hk
      rw [List.length_cons, Nat.add_mul, Nat.one_mul] at hl
      refine ⟨cs.take k.sz, cs.drop k.sz, by simp, ?_, ih _ (by rw [List.length_drop]; omega) (fun i hi => ?_)⟩
      · have := hk 0 (by simp)
        simp at this
        exact h this
      · have := hk (i + 1) (by simpa using hi)
        rw [Nat.add_mul, Nat.one_mul, Nat.add_comm (i * k.sz), ← List.drop_drop] at this
        simpa using this
  exact key x cs (by rw [h2, h1]) (fun i hi => h3 i hi)
/-- values of these data there can be -/
def Ty.has {α : Type} (T : Ty α) (x : α) : Prop := ∃ S cs, T.rep S cs x
theorem reps.has {α : Type} {T : Ty α} {S : Snap} : ∀ {xs : List α} {vs : List Value}, reps T S vs xs → ∀ x ∈ xs, T.has x
  | [], _, _ => fun x hx => by simp at hx
  | y :: ys, _, ⟨c1, c2, e, k1, k2⟩ => fun x hx => by
    rcases List.mem_cons.1 hx with rfl | hx
    · exact ⟨S, c1, k1⟩
    · exact k2.has x hx
theorem slS.has {α : Type} {T : Ty α} {S : Snap} {A : Option Addr} {c : Nat} {xs : List α} (h : slS T S A c xs) : ∀ x ∈ xs, T.has x := by obtain ⟨_, _, vs, _, h2⟩ := h; exact h2.has
theorem agg_of {v : Value} {n : Nat} (h : v.cells.toList.length = n) (hn : n ≠ 1) : ∃ cs : List Value, v = .agg cs.toArray ∧ v.cells.toList = cs := by
  cases v
  case agg xs => exact ⟨xs.toList, by simp, rfl⟩
  all_goals (simp [Value.cells] at h; omega)
/-- a law's answer -/
theorem law_yes {w w' : World} {e : Ending} (h : Ret w (snapAll w) [] (fun v L1 S1 => v = .bool true ∧ L1 = [] ∧ True) e w') : e = .returned (.bool true) ∧ Below w.heap.size w w' := by
  obtain ⟨v, L', S', rfl, ⟨rfl, rfl, _⟩, _, _, hm⟩ := h
  refine ⟨rfl, hm.chg.os, hm.chg.tape, hm.chg.output, hm.chg.size, fun k hk => hm.chg.block k hk ?_⟩
  rintro ⟨x, hx, hxk⟩
  rw [List.mem_singleton.1 hx] at hxk; exact hxk
end
section
theorem sb_size (l : List UInt8) : (sb l).size = l.length := by simp [sb, ByteArray.size]
section
variable {P : Program} {o : Oper} {a : Act} {w : World} {N : Nat} {ρ : Slots} {x y : Operand} {t t' : TypeId} {S : Snap}
theorem x_lenStr (h : Knows N ρ a) (ho : o.op = .call { callee := .builtin .len, args := #[x], argTypes := #[t] }) (ht : P.underlying t = some .string) {p : List UInt8} (hx : ev ρ x = some (.string (sb p))) : (execOp a.eval o).run P w = .ok (.value (.int .i64 (p.length : Int))) w := by
  rw [← sb_size]
  simp [execOp, ho, resolve, invoke, builtin, h.eval hx, Builtin.len_, run_underlying ht, goInt]
theorem x_indexStr (h : Knows N ρ a) (ho : o.op = .index t x y) (ht : P.underlying t = some .string) {p : List UInt8} (hx : ev ρ x = some (.string (sb p))) {kd : IntKind} {j : Int} (hy : ev ρ y = some (.int kd j)) {m : Nat} (hj : j = (m : Int)) {c : UInt8} (hc : p[m]? = some c) : (execOp a.eval o).run P w = .ok (.value (.int .u8 (c.toNat : Int))) w := by
  subst hj
  have hm : (sb p)[m]? = some c := by
    have := (List.getElem?_eq_some_iff.1 hc)
    obtain ⟨h1, h2⟩ := this
    rw [getElem?_pos (sb p) m (by rw [sb_size]; exact h1)]
    simp [sb, ByteArray.getElem_eq_getElem_data, h2]
  simp [execOp, ho, h.eval hx, h.eval hy, Instr.index, run_underlying ht, asIntOf, hm]
end
end
end
end Go.Proofs.Ytohgmggdfmjgnaa
