/- Steps: append of noughts, copy. -/
import Derived.Test.YtcjleeclpmgbjaaDoorInt
import Derived.Lib.AppendZerosOnto
import Derived.Lib.AppendZeros
set_option linter.unusedVariables false
set_option linter.unusedSimpArgs false
namespace Go.Proofs.YtcjleeclpmgbjaaDoor
open Go.RowKit
section
variable {P : Program} {ops : Array Oper} {rest : List Oper} {o : Oper} {Q : Exit → Act → World → Prop} {N : Nat} {w0 w w' : World} {B : Nat → Prop} {ρ ρ' : Slots} {L L' : List Ch} {a a' : Act} {d : Nat} {u v : Value}
/-- append(v, make([]T, m)...), cells of one -/
theorem run_appendZ (w : World) (t tn ty e : TypeId) (i : TypeInfo) (z : Value) (bytes : Nat) (kq kn : IntKind) (ht : P.underlying t = some (.slice e)) (htn : P.underlying tn = some (.int kn)) (hi : P.info? e = some i) (hz : i.zero = some z) (hs1 : i.size = 1) (hby : i.bytes = bytes) (hz1 : z.cells = #[z]) (h1 : z.oneCell' = true)
    (v : Value) (n : Nat) (xs : List Value) (hown : w.ownsRow 0 e 1 v n xs) (m : Nat) (h63 : n + m ≤ maxLen) (hbytes : (n + m) * bytes ≤ 140737488355328) :
    ∃ v' w', (Builtin.append_ #[t, tn] ty #[v, .int kq m]).run P w = .ok v' w' ∧ w'.ownsRow 0 e 1 v' (n + m) (xs ++ List.replicate m z) ∧ w.grownBy w' v.ownBlock ∧ (∀ k, v'.ownBlock = some k → v.ownBlock = some k ∨ w.heap.size ≤ k) := by
  have hsmall : n + m ≤ 9223372036854775807 := by simp only [maxLen] at h63; omega
  have hzc : (Builtin.zeroCells z.cells m).toList = List.replicate m z := by
    rw [hz1]
    apply List.ext_getElem
    · simp [Builtin.zeroCells]
    · intro j h1 h2; simp [Builtin.zeroCells, Nat.mod_one]
  have hw : IntKind.i64.wrap (m : Int) = m := by rw [IntKind.wrap_i64]; omega
  have hmb : m * bytes ≤ 140737488355328 := Nat.le_trans (Nat.mul_le_mul_right _ (Nat.le_add_left m n)) hbytes
  have hw0 : IntKind.i64.wrap 0 = 0 := by rw [IntKind.wrap_i64]; omega
  by_cases hm : m = 0
  · subst hm
    refine ⟨v, w, ?_, by simpa using hown, World.grownBy.refl w _, fun _ h => .inl h⟩
    rcases hown.2 with ⟨rfl, rfl⟩ | ⟨g, cap, cur, rfl, _, _, hnc, _⟩
    · simp [Builtin.append_, run_underlying ht, run_underlying htn, sizeOf, typeInfo, hi, hs1, asInt, asIntOf, storeCells, hw0]
    · simp [Builtin.append_, run_underlying ht, run_underlying htn, sizeOf, typeInfo, hi, hs1, asInt, asIntOf, storeCells, hnc, hw0]
  · have grown : ∀ old row, old < n + m → (w.drew.alloc (.cells (xs.toArray ++ Builtin.zeroCells z.cells m ++ Builtin.zeroCells z.cells (grownCap w (n + m) old e - (n + m))) e)).ownsRow 0 e 1 (.slice (some ⟨w.heap.size, 0, none⟩) (n + m) (grownCap w (n + m) old e)) (n + m) (xs ++ List.replicate m z) ∧
        w.grownBy (w.drew.alloc (.cells (xs.toArray ++ Builtin.zeroCells z.cells m ++ Builtin.zeroCells z.cells (grownCap w (n + m) old e - (n + m))) e)) row := by
      intro old row ho
      have hge := grownCap_ge w (n + m) old e
      have hcm : grownCap w (n + m) old e ≤ maxLen := grownCap_le_maxLen w (n + m) old e h63
      have hxl : xs.length = n := by have := hown.1; omega
      refine ⟨⟨by simp [hxl], .inr ⟨w.heap.size, _, _, rfl, Nat.zero_le _, heap_alloc_new w.drew _, hge, hcm, ?_, ?_⟩⟩, ⟨rfl, rfl, rfl, by simp, fun k hk _ => heap_alloc_old w.drew _ hk⟩⟩
      · simp [size_zeroCells, hz1, hxl]; omega
      · simp only [Array.toList_append, hzc, Nat.mul_one]
        rw [show n + m = (xs ++ List.replicate m z).length by simp [hxl]]
        exact List.take_left
    rcases hown.2 with ⟨rfl, rfl⟩ | ⟨g, cap, cur, rfl, hbg, hg, hnc, hcm, hcs, htake⟩
    · have hx : xs = [] := List.eq_nil_of_length_eq_zero (by simpa using hown.1)
      subst hx
      have hr := Lib.run_append_nil_zeros (P := P) w t tn ty e i z kq kn ht htn hi hz m (by omega) (by omega) (by omega) (by rw [hby]; omega)
      have hgr := grown 0 (Value.ownBlock (.slice none 0 0)) (by omega)
      simp only [Nat.zero_add, Array.empty_append, List.nil_append] at hgr ⊢
      exact ⟨_, _, hr, hgr.1, hgr.2, fun k hk => .inr (by have : some w.heap.size = some k := hk; cases this; exact Nat.le_refl _)⟩
    · by_cases hroom : n + m ≤ cap
      · have hxl : xs.length = n := by have := hown.1; omega
        have hfit : n + m ≤ cur.size := by rw [hcs]; omega
        have hst := run_storeCells_at P g n e (List.replicate m z) 0 cur w hg (by simpa using hfit) (fun u hu => by rw [(List.mem_replicate.1 hu).2]; exact h1)
        simp only [Nat.add_zero, List.length_replicate] at hst
        have hneg : ¬ ((m : Int) < 0) := by omega
        have h48i : ¬ (281474976710656 < (m : Int) * (i.bytes : Int)) := by rw [← Int.natCast_mul, hby]; omega
        have hadd : (⟨g, 0, none⟩ : Addr).add n = ⟨g, n, none⟩ := by rw [Addr.add_mid]; simp
        refine ⟨.slice (some ⟨g, 0, none⟩) (n + m) cap, w.setRow g (cur.toList.take n ++ List.replicate m z ++ cur.toList.drop (n + m)).toArray, ?_, ⟨by simp [hxl], .inr ⟨g, cap, _, rfl, hbg, setRow_heap w g cur _ e _ hg, hroom, hcm, ?_, ?_⟩⟩, ⟨rfl, rfl, rfl, by simp [World.setRow], fun k _ hk => setRow_other w g k _ (fun e => hk (by simp [Value.ownBlock, e]))⟩, fun k hk => .inl hk⟩
        · have hz2 : (zeroValue e).run P w = .ok z w := by simp [zeroValue, typeInfo, hi, hz]
          simp [Builtin.append_, run_underlying ht, run_underlying htn, sizeOf, typeInfo, hi, hs1, asInt, asIntOf, hw, hneg, h48i, hm, hroom, hz2, hzc, hadd, hst]
        · simp [hcs]; omega
        · have : (cur.toList.take (n * 1)) = xs := htake
          rw [Nat.mul_one] at this
          simp only [List.toList_toArray, this, Nat.mul_one]
          rw [show n + m = (xs ++ List.replicate m z).length by simp [hxl]]
          exact List.take_left
      · have holds : ∀ j u, xs[j]? = some u → w.drew.cell? ((⟨g, 0, none⟩ : Addr).add j) = some u := hown.cells (g := g) rfl
        have hold := run_firstCells_some (P := P) w.drew i.size n ⟨g, 0, none⟩ n cap xs (by rw [hs1]; exact hown.1) holds
        have hr := Lib.run_append_grow_zeros (P := P) w t tn ty e i z kq kn ht htn hi hz (some ⟨g, 0, none⟩) n cap xs hold m (by omega) (by omega) (by omega) (by omega) (by rw [hby]; omega) (growslice_fits (by omega) (by rw [hby]; exact hbytes))
        have hgr := grown cap (Value.ownBlock (.slice (some ⟨g, 0, none⟩) n cap)) (by omega)
        exact ⟨_, _, hr, hgr.1, hgr.2, fun k hk => .inr (by have : some w.heap.size = some k := hk; cases this; exact Nat.le_refl _)⟩
theorem s_appendZ (h : St N w0 B ρ L a w) (hg : o.guard = none) {s x : Operand} {t tn : TypeId} (ho : o.op = .call { callee := .builtin .append, args := #[s, x], argTypes := #[t, tn] }) (hd : o.dst = some d) (hN : d < N) {e : TypeId} (ht : P.underlying t = some (.slice e)) {kn : IntKind} (htn : P.underlying tn = some (.int kn)) {z : Value} {bytes : Nat} (hinfo : (P.info? e).map (fun i => (i.zero, i.size, i.bytes)) = some (some z, 1, bytes)) (hz1 : z.cells = #[z]) (h1 : z.oneCell' = true)
    {v : Value} (hs : ev ρ s = some v) (i : Nat) {n : Nat} {cs : List Value} (hi : L[i]? = some (.row v e 1 n cs)) {kq : IntKind} {j : Int} (hx : ev ρ x = some (.int kq j)) (m : Nat) (hj : j = (m : Int)) (hn : (n + m) * bytes ≤ 140737488355328) (hn2 : n + m ≤ maxLen)
    (k : ∀ a' w' v', St N w0 B ((d, v') :: ρ) (L.set i (.row v' e 1 (n + m) (cs ++ List.replicate m z))) a' w' → wpList P ops Q rest a' w') : wpList P ops Q (o :: rest) a w := by
  subst hj
  obtain ⟨ie, hi1, hi2, hi3, hi4⟩ := info_parts hinfo
  obtain ⟨v', w', hr, hown, hgr, hblk⟩ := run_appendZ (P := P) w t tn o.type e ie z bytes kq kn ht htn hi1 hi2 hi3 hi4 hz1 h1 v n cs (h.m.ok i _ hi) m hn2 hn
  refine Lib.wpList_append_run w hg s x t tn ho v (.int kq m) (h.k.eval hs) (h.k.eval hx) v' w' hr (k _ _ v' ⟨by rw [hd]; exact h.k.put hN, ?_⟩)
  refine h.m.write hi (x := .row v e 1 n cs) (Chg.grown hgr _ (fun k hk => hk)) hown (fun k hk => ?_)
  rcases hblk k hk with h3 | h3
  · exact .inl h3
  · exact .inr h3
/-- copy into a block (cells of one) -/
theorem s_copyB (h : St N w0 B ρ L a w) (hg : o.guard = none) {x y : Operand} {dT sT : TypeId} (ho : o.op = .call { callee := .builtin .copy, args := #[x, y], argTypes := #[dT, sT] }) (hd : o.dst = some d) (hN : d < N) {e : TypeId} (ht : P.underlying dT = some (.slice e)) (hsz : (P.info? e).map (·.size) = some 1)
    {dp sp : Option Addr} {dLen dCap sLen sCap : Nat} (hx : ev ρ x = some (.slice dp dLen dCap)) (hy : ev ρ y = some (.slice sp sLen sCap)) (i : Nat) {g : Nat} (off : Nat) {T : TypeId} {cs : List Value} (hi : L[i]? = some (.box g T cs)) (news : List Value) (hn : news.length = Nat.min sLen dLen)
    (hdp : 0 < news.length → dp = some ⟨g, off, none⟩) (hr : Rd w sp news) (hfit : off + news.length ≤ cs.length) (h1 : ∀ v ∈ news, v.oneCell' = true)
    (k : ∀ a' w', St N w0 B ((d, .int .i64 (news.length : Int)) :: ρ) (L.set i (.box g T (splice cs off news))) a' w' → wpList P ops Q rest a' w') : wpList P ops Q (o :: rest) a w := by
  have hgb : w.heap[g]? = some (.cells cs.toArray T (0, 0)) := h.m.ok i _ hi
  by_cases h0 : news.length = 0
  · obtain rfl : news = [] := List.eq_nil_of_length_eq_zero h0
    refine wpList_copy_nothing hg x y dT sT ho e ht hsz dp sp dLen dCap sLen sCap (h.k.eval hx) (h.k.eval hy) (by simpa using hn.symm) ?_
    refine k _ _ ⟨by rw [hd]; exact h.k.put hN, ?_⟩
    refine h.m.write hi (x := .box g T cs) (Chg.refl w _) ?_ (fun k hk => .inl hk)
    show _ = _
    simpa [splice] using hgb
  · obtain rfl := hdp (by omega)
    have hne : 0 < news.length := by omega
    obtain ⟨ad, rfl, _⟩ := hr 0 news[0] (by simp [hne])
    refine wpList_copy_own hg x y dT sT ho e ht hsz g off dLen dCap ad sLen sCap (h.k.eval hx) (h.k.eval hy) cs.toArray T hgb news hn (fun j v hv => by obtain ⟨ad', e', h'⟩ := hr j v hv; cases e'; exact h') (by simpa using hfit) h1 ?_
    refine k _ _ ⟨by rw [hd]; exact h.k.put hN, ?_⟩
    refine h.m.write hi (x := .box g T cs) ⟨rfl, rfl, rfl, by simp [World.setRow], fun k hk hne => setRow_other w g k _ (fun e => hne e)⟩ ?_ (fun k hk => .inl hk)
    show _ = _
    simpa [splice] using setRow_heap w g _ _ T _ hgb
end
end Go.Proofs.YtcjleeclpmgbjaaDoor
