/- Texts put together. -/
import Derived.Test.YtohgmggdfmjgnaaWd
import Derived.Test.YtohgmggdfmjgnaaPc
import Derived.Test.YtohgmggdfmjgnaaPs
import Derived.Lib.AppendStr
import Derived.Lib.Strings
import Derived.Lib.Slices
import Derived.Lib.Walk
import Derived.Lib.Bytealg
set_option linter.unusedVariables false
set_option linter.unusedSimpArgs false
namespace Go.Proofs.Ytohgmggdfmjgnaa
open Go.RowKit
section
def kdf_Number (Fu : Nat) (a0 : Int) : Option ((List UInt8)) :=
  (word_Put Fu a0 8).bind fun x1 => if x1.2 ≠ 0 then (some ([])) else (some x1.1)
set_option maxRecDepth 100000 in
set_option maxHeartbeats 2000000 in
theorem kdf_Number_ok (Fu : Nat) {S0 : Snap} (a0 : Int) (hra0 : r64 a0) (r : (List UInt8)) (hf : kdf_Number Fu a0 = some r) (w0 : World) (hm : Mem w0 (ownL ([] ++ [.sn S0])) ([] ++ [.sn S0]) w0) :
    Calls Try.prog 46 #[.int .i64 a0] w0 (Ret w0 S0 [] (fun v L1 S1 => ∃ (A11 : Option Addr), ∃ (c12 : Nat), ∃ (cs13 : List Value), v = .slice A11 r.length c12 ∧ L1 = [.row (.slice A11 r.length c12) 5 1 r.length cs13] ∧ reps ty8 S1 cs13 r ∧ True)) := by
  unfold kdf_Number at hf
  refine c_enterM Try.func46 rfl 13 rfl (by simp) _ hm _ rfl (fun a h => ?_)
  refine c_rs ?_
  refine sAV h (fun a h => ?_)
  refine l_end ?_
  refine c_rs ?_
  refine sMV h (fun a h => ?_)
  obtain ⟨x1, h2, hf⟩ := bsome hf
  have hX := word_Put_ok Fu (S0 := snapAll _) a0 hra0 8 (show r64 8 from ⟨by decide, by decide⟩) _ h2 _ h.startAll
  refine q_callX hX h rfl rfl rfl (by decide) Try.func63 rfl rfl rfl (fun a w v L1 S1 hR hb1 h => ?_)
  obtain ⟨A4, c5, cs6, rfl, rfl, hq7, hr8, _⟩ := hR
  have hq9 := hq7.fl (S' := S0) fl_8
  refine sMV h (fun a h => ?_)
  refine sX h (x_ext h.k rfl rfl rfl) (fun a h => ?_)
  refine sX h (x_ext h.k rfl rfl rfl) (fun a h => ?_)
  refine sAV h (fun a h => ?_)
  refine sAV h (fun a h => ?_)
  refine l_end ?_
  refine wp_seq ?_
  refine c_rs ?_
  refine sMV h (fun a h => ?_)
  refine sX h (x_bin h.k rfl rfl rfl ib_neq) (fun a h => ?_)
  refine l_end ?_
  refine c_cond h rfl (fun hb => ?_) (fun hb => ?_)
  · rw [if_pos (of_decide_eq_true hb)] at hf
    refine c_rs ?_
    refine sAV h (fun a h => ?_)
    refine l_end ?_
    refine wp_ret ?_
    refine e_thenR ?_
    obtain rfl := Option.some.inj hf
    have h := h.mem (h.m.nilrow 5 1)
    exact r_ret1 h rfl (rv_tmp h rfl) ⟨_, [.row (.slice none ([]).length 0) 5 1 ([]).length []], _, rfl, ⟨none, 0, [], rfl, rfl, (show reps ty8 S0 [] [] from rfl), trivial⟩, rfl, (Up.refl _ _ _), (h.m.pick [0, 2] _ (by decide) rfl)⟩
  · rw [if_neg (of_decide_eq_false hb)] at hf
    refine wp_skip ?_
    refine e_thenN ?_
    refine c_rs ?_
    refine sMV h (fun a h => ?_)
    refine sAV h (fun a h => ?_)
    refine l_end ?_
    refine wp_ret ?_
    obtain rfl := Option.some.inj hf
    exact r_ret1 h rfl (rv_tmp h rfl) ⟨_, [.row (.slice A4 x1.1.length c5) 5 1 x1.1.length cs6], _, rfl, ⟨A4, c5, cs6, rfl, rfl, hq9, trivial⟩, rfl, (Up.refl _ _ _), h.m⟩
def chatelaineref06_List_l0 (Fu : Nat) (a0 : List UInt8) : Nat → (List UInt8) → Int → Option ((List UInt8))
  | 0, _, _ => none
  | k + 1, x6, x11 => if x11 < 32 then ((ix 32 x11).bind fun m21 => (a0[m21]?).bind fun x25 => (app 1 x6 ([x25])).bind fun x32 => chatelaineref06_List_l0 Fu a0 k x32 (w64 (x11 + 1))) else (some x6)
def chatelaineref06_List (Fu : Nat) (a0 : List UInt8) : Option ((List UInt8)) :=
  (chatelaineref06_List_l0 Fu a0 Fu ([]) 0).bind fun x13 => some x13
set_option maxRecDepth 100000 in
set_option maxHeartbeats 2000000 in
theorem chatelaineref06_List_ok (Fu : Nat) {S0 : Snap} (csa0 : List Value) (a0 : List UInt8) (hsa0 : (tyA 32 ty8).rep S0 csa0 a0) (r : (List UInt8)) (hf : chatelaineref06_List Fu a0 = some r) (w0 : World) (hm : Mem w0 (ownL ([] ++ [.sn S0])) ([] ++ [.sn S0]) w0) :
    Calls Try.prog 57 #[.agg csa0.toArray] w0 (Ret w0 S0 [] (fun v L1 S1 => ∃ (A39 : Option Addr), ∃ (c40 : Nat), ∃ (cs41 : List Value), v = .slice A39 r.length c40 ∧ L1 = [.row (.slice A39 r.length c40) 5 1 r.length cs41] ∧ reps ty8 S1 cs41 r ∧ True)) := by
  unfold chatelaineref06_List at hf
  obtain ⟨hs1, hl2⟩ := hsa0
  refine c_enterM Try.func57 rfl 16 rfl (by simp) _ hm _ rfl (fun a h => ?_)
  refine c_rs ?_
  refine s_box h rfl rfl rfl (by decide) rfl (cs := csa0) (by rfl) (fun a w g3 h => ?_)
  refine sAV h (fun a h => ?_)
  refine l_end ?_
  refine c_rs ?_
  refine sAV h (fun a h => ?_)
  refine l_end ?_
  refine wp_seq ?_
  refine c_rs ?_
  refine sAV h (fun a h => ?_)
  refine l_end ?_
  obtain ⟨o4, hl5, hf⟩ := bsome hf
  refine c_fin (fun a w => ∃ (x13 : List UInt8), ∃ (A14 : Option Addr), ∃ (c15 : Nat), ∃ (cs16 : List Value), x13 = o4 ∧ reps ty8 S0 cs16 x13 ∧ St 16 w0 (ownL ([] ++ [.sn S0])) [(3, .slice A14 x13.length c15)] [.row (.slice A14 x13.length c15) 5 1 x13.length cs16, .sn S0] a w) ?_ ?_
  · refine wp_block ?_
    have h := h.mem (h.m.nilrow 5 1)
    have h := h.pick [1, 0, 2] (by decide) rfl
    refine c_loop (fun m19 a w => ∃ (x6 : List UInt8), ∃ (A7 : Option Addr), ∃ (c8 : Nat), ∃ (cs9 : List Value), ∃ (x11 : Int), chatelaineref06_List_l0 Fu a0 m19 x6 x11 = some o4 ∧ reps ty8 S0 cs9 x6 ∧ r64 x11 ∧ St 16 w0 (ownL ([] ++ [.sn S0])) [(1, .pointer (some ⟨g3, 0, none⟩)), (3, .slice A7 x6.length c8), (4, .int .i64 x11)] [.box g3 84 csa0, .row (.slice A7 x6.length c8) 5 1 x6.length cs9, .sn S0] a w) Fu ⟨[], none, 0, [], 0, hl5, (show reps ty8 S0 [] [] from rfl), (show r64 0 from ⟨by decide, by decide⟩), h.has (by exact ⟨rfl, rfl, rfl, trivial⟩)⟩ (fun m19 a w hI => ?_)
    obtain ⟨x6, A7, c8, cs9, x11, hl18, hq10, hr12, h⟩ := hI
    obtain _ | m19 := m19
    · rw [chatelaineref06_List_l0] at hl18; cases hl18
    rw [chatelaineref06_List_l0] at hl18
    refine wp_seq ?_
    refine c_rs ?_
    refine sMV h (fun a h => ?_)
    refine sX h (x_bin h.k rfl rfl rfl ib_lss) (fun a h => ?_)
    refine l_end ?_
    refine c_cond h rfl (fun hb => ?_) (fun hb => ?_)
    · rw [if_pos (of_decide_eq_true hb)] at hl18
      refine wp_skip ?_
      refine e_thenN ?_
      refine wp_seq ?_
      refine wp_block ?_
      refine c_r ?_
      refine sMV h (fun a h => ?_)
      refine sMV h (fun a h => ?_)
      obtain ⟨m21, h22, hl18⟩ := bsome hl18
      obtain ⟨hi23, hm24⟩ := ix_some h22
      refine sX h (x_iaddrA h.k rfl Try.underlying84 sz_uint8 rfl rfl hi23 hm24 rfl) (fun a h => ?_)
      obtain ⟨x25, h26, hl18⟩ := bsome hl18
      obtain ⟨u27, hv28, hu29⟩ := (hs1).cell rfl h26
      cases hu29
      refine sX h (x_ld h.k rfl Try.underlying5 rfl rfl ((h.m.cell (i := 0) rfl _).trans (by rw [Nat.zero_add, Nat.mul_one]; exact hv28))) (fun a h => ?_)
      refine q_bslice (T := ty8) (S := S0) h rfl rfl rfl (by decide) Try.underlying22 zi_uint8 (by decide) (by decide) (by decide) (by decide) [.int .u8 (x25.toNat : Int)] rfl rfl (C := [[.int .u8 (x25.toNat : Int)]]) rfl (xs := [x25]) ⟨[.int .u8 (x25.toNat : Int)], _, rfl, rfl, rfl⟩ (by intro c hc; simp only [List.mem_cons, List.not_mem_nil, or_false] at hc; subst hc; rfl) (fun a w A30 h => ?_)
      have hb31 : reps ty8 S0 ([[.int .u8 (x25.toNat : Int)]] : List (List Value)).flatten [x25] := ⟨[.int .u8 (x25.toNat : Int)], _, rfl, rfl, rfl⟩
      obtain ⟨x32, h33, hl18⟩ := bsome hl18
      refine q_append (T := ty8) (S := S0) h rfl rfl rfl (by decide) Try.underlying22 zb_uint8 rfl (by decide) rfl 2 rfl hq10 rfl hb31 (h.m.rdRowA (i := 0) rfl) h33 (fun a w A34 c35 cs36 hq37 h => ?_)
      refine sAV h (fun a h => ?_)
      refine l_nil ?_
      refine e_blkN ?_
      refine e_thenN ?_
      refine c_r ?_
      refine sMV h (fun a h => ?_)
      refine sX h (x_bin h.k rfl rfl rfl (ib_add rfl)) (fun a h => ?_)
      refine sAV h (fun a h => ?_)
      refine l_nil ?_
      have h := h.pick [1, 2, 3] (by decide) rfl
      exact e_thenN ⟨m19, Nat.lt_succ_self _, x32, A34, c35, cs36, w64 (x11 + 1), hl18, hq37, (w64_r _), h.has (by exact ⟨rfl, rfl, rfl, trivial⟩)⟩
    · rw [if_neg (of_decide_eq_false hb)] at hl18
      refine wp_exit ?_
      refine e_thenX ?_
      refine e_thenX ?_
      refine e_blkX ?_
      refine e_thenN ?_
      have h := h.pick [1, 2] (by decide) rfl
      exact ⟨x6, A7, c8, cs9, (Option.some.inj hl18), hq10, h.has (by exact ⟨rfl, trivial⟩)⟩
  · rintro a w ⟨x13, A14, c15, cs16, rfl, hq17, h⟩
    refine e_thenN ?_
    refine c_rs ?_
    refine sMV h (fun a h => ?_)
    refine sAV h (fun a h => ?_)
    refine l_end ?_
    refine wp_ret ?_
    rw [← Option.some.inj hf]
    exact r_ret1 h rfl (rv_tmp h rfl) ⟨_, [.row (.slice A14 x13.length c15) 5 1 x13.length cs16], _, rfl, ⟨A14, c15, cs16, rfl, rfl, hq17, trivial⟩, rfl, (Up.refl _ _ _), h.m⟩
end
section
section
section
section
variable {α : Type} {T : Ty α} {P : Program} {ops : Array Oper} {rest : List Oper} {o : Oper} {Q : Exit → Act → World → Prop} {N : Nat} {w0 w w' : World} {B : Nat → Prop} {ρ ρ' : Slots} {L L' Ls R : List Ch} {a a' : Act} {d : Nat} {u v : Value} {S S0 S' : Snap}
/-- 'x && y', 'x || y': what the operations leave is told by R -/
theorem q_grpR (h : St N w0 B ρ L a w) (n : Nat) {l : List Oper} {t : Nat} {b : Bool} (R : Act → World → Prop) (hb : ρ.lookup t = some (.bool b)) (h1 : b = true → wpList P ops (Exit.then R Q) (l.take n) a w) (h0 : b = false → wpList P ops (Exit.then R Q) (l.take n) a w) (k : ∀ a' w', R a' w' → wpList P ops Q (l.drop n) a' w') : wpList P ops Q l a w := by
  refine l_split n R ?_ k
  cases b
  · exact h0 rfl
  · exact h1 rfl
end
end
section
section
variable {P : Program} {ops : Array Oper} {rest : List Oper} {o : Oper} {Q : Exit → Act → World → Prop} {N : Nat} {w0 w w' : World} {B : Nat → Prop} {ρ ρ' : Slots} {L L' Ls R : List Ch} {a a' : Act} {d : Nat} {u v : Value} {S S0 S' : Snap}
theorem append_blockS {w : World} (t u ty e : TypeId) (i : TypeInfo) (ht : P.underlying t = some (.slice e)) (hu : P.underlying u = some .string) (hi : P.info? e = some i) (hz : i.zero = some (.int .u8 0))
    (hsize : i.size = 1) (hby : i.bytes = 1) (v : Value) (n : Nat) (xs : List Value) (hown : w.ownsRow 0 e 1 v n xs) (s : ByteArray)
    (h63 : n + s.size ≤ maxLen) (hbytes : n + s.size ≤ 140737488355328) {v' : Value} {w' : World}
    (hr : (Builtin.append_ #[t, u] ty #[v, .string s]).run P w = .ok v' w') : ∀ k, v'.ownBlock = some k → v.ownBlock = some k ∨ w.heap.size ≤ k := by
  have hsmall : n + s.size ≤ 9223372036854775807 := by simp only [maxLen] at h63; omega
  have hxl : xs.length = n := by simpa using hown.1
  rcases hown.2 with ⟨rfl, rfl⟩ | ⟨g, cap, cur, rfl, hbg, hg, hnc, hcm, hcs, htake⟩
  · by_cases hm : s.size = 0
    · have hf := Lib.run_firstCells_string (P := P) w 1 s
      rw [hm] at hf
      have h : (Builtin.append_ #[t, u] ty #[.slice none 0 0, .string s]).run P w = .ok (.slice none 0 0) w := by
        simp [Builtin.append_, run_underlying ht, run_underlying hu, sizeOf, typeInfo, hi, hsize, Builtin.lenOf, hm, hf]
      rw [h] at hr; cases hr
      intro k hk; simp [Value.ownBlock] at hk
    · have h := run_append_nil_string (P := P) w t u ty e i (.int .u8 0) ht hu hi hz s (by omega) (by omega) (by rw [hby]; omega)
      rw [h] at hr; cases hr
      intro k hk; simp [Value.ownBlock] at hk; exact .inr (by omega)
  · by_cases hroom : n + s.size ≤ cap
    · have hcs' : cur.size = cap := by simpa using hcs
      have h := Lib.run_append_room_string (P := P) w t u ty e i ht hu hi hsize g n cap cur hg s hroom (by omega)
      rw [h] at hr; cases hr
      intro k hk; exact .inl hk
    · have holds : ∀ j u, xs[j]? = some u → w.cell? ((⟨g, 0, none⟩ : Addr).add j) = some u := hown.cells (g := g) rfl
      have h := Lib.run_append_grow_string (P := P) w t u ty e i (.int .u8 0) ht hu hi hz ⟨g, 0, none⟩ n cap xs (by rw [hsize]; simpa using hxl) holds s (by omega) (by omega) (by rw [hby]; exact growslice_fits (by omega) (by omega))
      rw [h] at hr; cases hr
      intro k hk; simp [Value.ownBlock] at hk; exact .inr (by omega)
theorem strCells_by8 (p : List UInt8) : Lib.strCells (sb p) = by8 p := by
  simp [Lib.strCells, sb, by8]
  intro a _; rfl
theorem rep8E (S : Snap) (l : List UInt8) : reps ty8 S (by8 l) l := by
  induction l with
  | nil => rfl
  | cons x l ih => exact ⟨[_], _, rfl, rfl, ih⟩
theorem q_appendStr (h : St N w0 B ρ L a w) (hg : o.guard = none) {s x : Operand} {t u : TypeId} (ho : o.op = .call { callee := .builtin .append, args := #[s, x], argTypes := #[t, u] }) (hd : o.dst = some d) (hN : d < N) {e : TypeId} (ht : P.underlying t = some (.slice e)) (hu : P.underlying u = some .string) (hinfo : (P.info? e).map (fun i => (i.zero, i.size, i.bytes)) = some (some (.int .u8 0), 1, 1))
    {A : Option Addr} {c : Nat} {l p r : List UInt8} {cs : List Value} (hs : ev ρ s = some (.slice A l.length c)) (i : Nat) (hi : L[i]? = some (.row (.slice A l.length c) e 1 l.length cs)) (hl : reps ty8 S cs l) (hx : ev ρ x = some (.string (sb p))) (hap : app 1 l p = some r)
    (k : ∀ a' w' A' c' cs', reps ty8 S cs' r → St N w0 B ((d, .slice A' r.length c') :: ρ) (L.set i (.row (.slice A' r.length c') e 1 r.length cs')) a' w' → wpList P ops Q rest a' w') : wpList P ops Q (o :: rest) a w := by
  obtain ⟨rfl, hb, hml⟩ := app_some hap
  rw [Nat.mul_one] at hb
  obtain ⟨ie, hi1, hi2, hi3, hi4⟩ := info_parts hinfo
  have hown : w.ownsRow 0 e 1 (.slice A l.length c) l.length cs := h.m.ok i _ hi
  have hsz := sb_size p
  obtain ⟨v', w', hr, ho2, hgr, _⟩ := Lib.run_append_own_string (P := P) w 0 t u o.type e ie ht hu hi1 hi2 hi3 hi4 (.slice A l.length c) l.length cs hown (sb p) (by rw [hsz]; exact hml) (by rw [hsz]; exact hb) (Nat.zero_le _)
  have hblk := append_blockS (P := P) t u o.type e ie ht hu hi1 hi2 hi3 hi4 (.slice A l.length c) l.length cs hown (sb p) (by rw [hsz]; exact hml) (by rw [hsz]; exact hb) hr
  rw [hsz, strCells_by8] at ho2
  have hm2 : Mem w0 B (L.set i (.row v' e 1 (l.length + p.length) (cs ++ by8 p))) w' := by
    refine h.m.write hi (x := .row (.slice A l.length c) e 1 l.length cs) (Chg.grown hgr _ (fun k hk => hk)) ho2 (fun k hk => ?_)
    rcases hblk k hk with h3 | h3
    · exact .inl h3
    · exact .inr h3
  obtain ⟨A', c', e', _, _, _⟩ := hm2.rdRow (i := i) (by rw [List.getElem?_set_self (List.getElem?_eq_some_iff.1 hi).1])
  subst e'
  rw [← List.length_append] at hm2 hr
  refine Lib.wpList_append_run w hg s x t u ho (.slice A l.length c) (.string (sb p)) (h.k.eval hs) (h.k.eval hx) _ w' hr (k _ _ A' c' _ (hl.append (rep8E S p)) ⟨by rw [hd]; exact h.k.put hN, hm2⟩)
end
end
end
section
set_option maxHeartbeats 1000000 in
set_option maxRecDepth 100000 in
theorem indexByte0 (s : ByteArray) (c : Int) (w : World) :
    Calls Try.prog 81 #[.string s, .int .u8 c] w fun e w' => e = .returned (.int .i64 (Lib.indexByte s.data.toList c.toNat.toUInt8)) ∧ w' = w := by
  go_enter Try.func81, Try.ntmps81
  go_wp2
  rw [run_callFunc_extern Try.func95 (by kernel_rfl) (by kernel_rfl) (by kernel_rfl) (e := Extern.BytealgIndexByte.indexByte) (by kernel_rfl), Lib.run_indexByteString]
  simp only [Result.andThen]
  rw [Oper.upon_value]
  go_wp2
  go_ret
  exact ⟨rfl, rfl⟩
set_option maxHeartbeats 1000000 in
theorem indexByte1 (s : ByteArray) (c : Int) (w : World) :
    Calls Try.prog 62 #[.string s, .int .u8 c] w fun e w' => e = .returned (.int .i64 (Lib.indexByte s.data.toList c.toNat.toUInt8)) ∧ w' = w := by
  go_enter Try.func62, Try.ntmps62
  go_wp2_with (go_at_call 81; refine (indexByte0 _ _ _).mono ?_; rintro e w' ⟨rfl, rfl⟩)
  go_ret
  exact ⟨rfl, rfl⟩
def strings_IndexByte (Fu : Nat) (a0 : List UInt8) (a1 : UInt8) : Option Int := some (Lib.indexByte a0 a1)
theorem indexByte_lt (l : List UInt8) (c : UInt8) : Lib.indexByte l c ≤ l.length := by
  induction l with
  | nil => simp [Lib.indexByte]
  | cons b l ih =>
    rw [Lib.indexByte]
    split
    · simp; omega
    · split
      · simp; omega
      · simp; omega
theorem strings_IndexByte_ok (Fu : Nat) {S0 : Snap} (a0 : List UInt8) (hra0 : a0.length ≤ maxLen) (a1 : UInt8) (r : Int) (hf : strings_IndexByte Fu a0 a1 = some r) (w0 : World) (hm : Mem w0 (ownL ([] ++ [.sn S0])) ([] ++ [.sn S0]) w0) :
    Calls Try.prog 62 #[.string (sb a0), .int .u8 (a1.toNat : Int)] w0 (Ret w0 S0 [] (fun v L1 S1 => v = .int .i64 r ∧ L1 = [] ∧ r64 r ∧ True)) := by
  cases hf
  refine (indexByte1 (sb a0) (a1.toNat : Int) w0).mono fun e w' ⟨he, hw⟩ => ?_
  subst hw
  have e1 : (sb a0).data.toList = a0 := by simp [sb]
  have e2 : ((a1.toNat : Int).toNat).toUInt8 = a1 := by apply UInt8.toNat_inj.1; simp
  rw [e1, e2] at he
  have h1 := Lib.indexByte_ge a0 a1
  have h2 := indexByte_lt a0 a1
  unfold maxLen at hra0
  exact ret_below hm he (Below.refl _ _) ⟨rfl, rfl, by unfold r64; omega, trivial⟩
end
end
end Go.Proofs.Ytohgmggdfmjgnaa
