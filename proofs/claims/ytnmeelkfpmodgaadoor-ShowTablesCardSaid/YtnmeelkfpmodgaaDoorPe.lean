/- Texts put together. -/
import Derived.Test.YtnmeelkfpmodgaaDoorPc
import Derived.Test.YtnmeelkfpmodgaaDoorPs
import Derived.Lib.AppendStr
set_option linter.unusedVariables false
set_option linter.unusedSimpArgs false
namespace Go.Proofs.YtnmeelkfpmodgaaDoor
open Go.RowKit
section
section
variable {α : Type} {T : Ty α} {P : Program} {ops : Array Oper} {rest : List Oper} {o : Oper} {Q : Exit → Act → World → Prop} {N : Nat} {w0 w w' : World} {B : Nat → Prop} {ρ ρ' : Slots} {L L' Ls R : List Ch} {a a' : Act} {d : Nat} {u v : Value} {S S0 S' : Snap}
end
end
section
section
variable {P : Program} {ops : Array Oper} {rest : List Oper} {o : Oper} {Q : Exit → Act → World → Prop} {N : Nat} {w0 w w' : World} {B : Nat → Prop} {ρ ρ' : Slots} {L L' Ls R : List Ch} {a a' : Act} {d : Nat} {u v : Value} {S S0 S' : Snap}
theorem append_blockS {w : World} (t u ty e : TypeId) (i : TypeInfo) (ht : P.underlying t = some (.slice e)) (hu : P.underlying u = some .string) (hi : P.info? e = some i) (hz : i.zero = some (.int .u8 0))
    (hsize : i.size = 1) (hby : i.bytes = 1) (v : Value) (n : Nat) (xs : List Value) (hown : w.ownsRow 0 e 1 v n xs) (s : ByteArray)
    (h63 : n + s.size ≤ maxLen) (hbytes : n + s.size ≤ 140737488355328) {v' : Value} {w' : World}
    (hr : (Builtin.append_ #[t, u] ty #[v, .string s]).run P w = .ok v' w') : ∀ k, v'.ownBlock = some k → v.ownBlock = some k ∨ w.heap.size ≤ k := by
  have hsmall : n + s.size ≤ 9223372036854775807 := by simp only [maxLen] at h63; omega
  have hxl : xs.length = n := by simpa using hown.1
  rcases hown.2 with ⟨rfl, rfl⟩ | ⟨g, cap, cur, rfl, hbg, hg, hnc, hcm, hcs, htake⟩
  · by_cases hm : s.size = 0
    · have hf := Lib.run_firstCells_string (P := P) w 1 s
      rw [hm] at hf
      have h : (Builtin.append_ #[t, u] ty #[.slice none 0 0, .string s]).run P w = .ok (.slice none 0 0) w := by
        simp [Builtin.append_, run_underlying ht, run_underlying hu, sizeOf, typeInfo, hi, hsize, Builtin.lenOf, hm, hf]
      rw [h] at hr; cases hr
      intro k hk; simp [Value.ownBlock] at hk
    · have h := run_append_nil_string (P := P) w t u ty e i (.int .u8 0) ht hu hi hz s (by omega) (by omega) (by rw [hby]; omega)
      rw [h] at hr; cases hr
      intro k hk; simp [Value.ownBlock] at hk; exact .inr (by omega)
  · by_cases hroom : n + s.size ≤ cap
    · have hcs' : cur.size = cap := by simpa using hcs
      have h := Lib.run_append_room_string (P := P) w t u ty e i ht hu hi hsize g n cap cur hg s hroom (by omega)
      rw [h] at hr; cases hr
      intro k hk; exact .inl hk
    · have holds : ∀ j u, xs[j]? = some u → w.cell? ((⟨g, 0, none⟩ : Addr).add j) = some u := hown.cells (g := g) rfl
      have h := Lib.run_append_grow_string (P := P) w t u ty e i (.int .u8 0) ht hu hi hz ⟨g, 0, none⟩ n cap xs (by rw [hsize]; simpa using hxl) holds s (by omega) (by omega) (by rw [hby]; exact growslice_fits (by omega) (by omega))
      rw [h] at hr; cases hr
      intro k hk; simp [Value.ownBlock] at hk; exact .inr (by omega)
theorem strCells_by8 (p : List UInt8) : Lib.strCells (sb p) = by8 p := by
  simp [Lib.strCells, sb, by8]
  intro a _; rfl
theorem rep8E (S : Snap) (l : List UInt8) : reps ty8 S (by8 l) l := by
  induction l with
  | nil => rfl
  | cons x l ih => exact ⟨[_], _, rfl, rfl, ih⟩
theorem q_appendStr (h : St N w0 B ρ L a w) (hg : o.guard = none) {s x : Operand} {t u : TypeId} (ho : o.op = .call { callee := .builtin .append, args := #[s, x], argTypes := #[t, u] }) (hd : o.dst = some d) (hN : d < N) {e : TypeId} (ht : P.underlying t = some (.slice e)) (hu : P.underlying u = some .string) (hinfo : (P.info? e).map (fun i => (i.zero, i.size, i.bytes)) = some (some (.int .u8 0), 1, 1))
    {A : Option Addr} {c : Nat} {l p r : List UInt8} {cs : List Value} (hs : ev ρ s = some (.slice A l.length c)) (i : Nat) (hi : L[i]? = some (.row (.slice A l.length c) e 1 l.length cs)) (hl : reps ty8 S cs l) (hx : ev ρ x = some (.string (sb p))) (hap : app 1 l p = some r)
    (k : ∀ a' w' A' c' cs', reps ty8 S cs' r → St N w0 B ((d, .slice A' r.length c') :: ρ) (L.set i (.row (.slice A' r.length c') e 1 r.length cs')) a' w' → wpList P ops Q rest a' w') : wpList P ops Q (o :: rest) a w := by
  obtain ⟨rfl, hb, hml⟩ := app_some hap
  rw [Nat.mul_one] at hb
  obtain ⟨ie, hi1, hi2, hi3, hi4⟩ := info_parts hinfo
  have hown : w.ownsRow 0 e 1 (.slice A l.length c) l.length cs := h.m.ok i _ hi
  have hsz := sb_size p
  obtain ⟨v', w', hr, ho2, hgr, _⟩ := Lib.run_append_own_string (P := P) w 0 t u o.type e ie ht hu hi1 hi2 hi3 hi4 (.slice A l.length c) l.length cs hown (sb p) (by rw [hsz]; exact hml) (by rw [hsz]; exact hb) (Nat.zero_le _)
  have hblk := append_blockS (P := P) t u o.type e ie ht hu hi1 hi2 hi3 hi4 (.slice A l.length c) l.length cs hown (sb p) (by rw [hsz]; exact hml) (by rw [hsz]; exact hb) hr
  rw [hsz, strCells_by8] at ho2
  have hm2 : Mem w0 B (L.set i (.row v' e 1 (l.length + p.length) (cs ++ by8 p))) w' := by
    refine h.m.write hi (x := .row (.slice A l.length c) e 1 l.length cs) (Chg.grown hgr _ (fun k hk => hk)) ho2 (fun k hk => ?_)
    rcases hblk k hk with h3 | h3
    · exact .inl h3
    · exact .inr h3
  obtain ⟨A', c', e', _, _, _⟩ := hm2.rdRow (i := i) (by rw [List.getElem?_set_self (List.getElem?_eq_some_iff.1 hi).1])
  subst e'
  rw [← List.length_append] at hm2 hr
  refine Lib.wpList_append_run w hg s x t u ho (.slice A l.length c) (.string (sb p)) (h.k.eval hs) (h.k.eval hx) _ w' hr (k _ _ A' c' _ (hl.append (rep8E S p)) ⟨by rw [hd]; exact h.k.put hN, hm2⟩)
end
end
end Go.Proofs.YtnmeelkfpmodgaaDoor
