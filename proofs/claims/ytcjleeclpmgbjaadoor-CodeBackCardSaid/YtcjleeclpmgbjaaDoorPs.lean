/- Texts put together. -/
import Derived.Test.YtcjleeclpmgbjaaDoorRef5c
import Derived.Test.YtcjleeclpmgbjaaDoorPc
import Derived.Lib.Strings
import Derived.Lib.Slices
import Derived.Lib.Walk
import Derived.Lib.Bytealg
import Derived.Laws.BytesString
set_option linter.unusedVariables false
set_option linter.unusedSimpArgs false
namespace Go.Proofs.YtcjleeclpmgbjaaDoor
open Go.RowKit
section
section
section

set_option maxRecDepth 100000 in
theorem rsum_ok (w0 : World) (A : Option Addr) (p : List UInt8) (c : Nat) (hP : Rd w0 A (by8 p)) (hp : p.length ≤ 1099511627776) :
    Calls Tryd.prog 35 #[.slice A p.length c] w0 fun e w' => e = .returned (.agg (by8 (shaS p)).toArray) ∧ Below w0.heap.size w0 w' := by
  refine c_enter Tryd.func35 rfl 9 rfl (by simp) (fun _ => False) _ rfl (fun a h => ?_)
  have h := h.mem (h.m.arg (rdP A (by8 p)) hP (fun _ _ hh => hh))
  refine c_rs ?_ -- region 0
  refine s_alloc h rfl rfl rfl (by decide) zi_A32_uint8 rfl (fun a w g2 h => ?_)
  refine l_end ?_
  refine c_rs ?_ -- region 1
  refine s_bslice1 h rfl rfl rfl (by decide) Tryd.underlying96 zi_uint32 (vs := ucs beginL) (by kernel_rfl) (by kernel_rfl) (ucs_one _) (by decide) (by decide) (fun a w g4 h => ?_)
  refine s_assign h rfl _ rfl rfl (by decide) rfl (fun a h => ?_)
  refine l_end ?_
  refine c_rs ?_ -- region 2
  refine s_callN h rfl rfl rfl (by decide) Tryd.func58 rfl rfl rfl (told_ok w) (fun a w v5 hb h => ?_)
  obtain ⟨g5, c5, rfl, hc5, _⟩ := h.m.rowAt (i := 0) rfl (by omega)
  have hr4 : Rd w (some ⟨g4, 0, none⟩) (ucs beginL) := by have := h.m.rdBox (i := 1) rfl 0; rwa [List.drop_zero] at this
  refine s_move h rfl _ rfl rfl (by decide) rfl (fun a h => ?_)
  refine s_move h rfl _ rfl rfl (by decide) rfl (fun a h => ?_)
  refine s_callB h rfl rfl rfl (by decide) Tryd.func57 rfl rfl rfl (with_ok w g5 0 c5 (h.m.rdRowA (i := 0) rfl) (some ⟨g4, 0, none⟩) 8 hr4 A p c (h.m.ok 3 _ rfl) hp) (fun a w hb h => ?_)
  refine s_stW h rfl rfl rfl ag_A32_uint8 rfl rfl (by rw [by8_length, shaS_length]) (by8_one _) 2 rfl (by rfl) (fun a w h => ?_)
  refine l_end ?_
  refine wp_ret ?_
  exact r_ret1 h rfl (rv_cellA h rfl 2 rfl ag_A32_uint8 (by rw [by8_length, shaS_length])) ⟨rfl, h.m.below⟩
end
section
theorem slS_bytes {S : Snap} {A : Option Addr} {c : Nat} {l : List UInt8} {w : World} (h : slS ty8 S A c l) (hw : SnapOK S w) : Rd w A (by8 l) := by
  obtain ⟨_, _, vs, h1, h2⟩ := h
  cases reps8 h2
  exact h1 w hw
theorem slS_lists {S : Snap} {A : Option Addr} {c : Nat} {ls : List (List UInt8)} {w : World} (h : slS (tyL ty8) S A c ls) (hw : SnapOK S w) : RbL w A ls := by
  obtain ⟨_, _, vs, h1, h2⟩ := h
  refine ⟨vs, by rw [h2.len]; show _ * 1 = _; omega, h1 w hw, fun i v l hv hl => ?_⟩
  obtain ⟨u, e1, e2⟩ := h2.cell rfl hl
  cases hv.symm.trans e1
  obtain ⟨A', c', e, hs⟩ := e2
  cases e
  exact ⟨A', c', rfl, hs.1, hs.2.1, slS_bytes hs hw⟩
theorem ret_below {w0 w' : World} {S0 : Snap} {Rs : Value → List Ch → Snap → Prop} {e : Ending} {v : Value} (hm : Mem w0 (ownL ([] ++ [.sn S0])) ([] ++ [.sn S0]) w0) (he : e = .returned v) (hb : Below w0.heap.size w0 w') (hR : Rs v [] S0) : Ret w0 S0 [] Rs e w' :=
  ⟨v, [], S0, he, hR, rfl, Up.refl _ _ _, hm.ext hb⟩
theorem rep8 (S : Snap) (l : List UInt8) : reps ty8 S (by8 l) l := by
  induction l with
  | nil => rfl
  | cons x l ih => exact ⟨[_], _, rfl, rfl, ih⟩
def sha_Sum (Fu : Nat) (a0 : List (List UInt8)) : Option (List UInt8) := if a0.flatten.length ≤ 1099511627776 then some (shaS a0.flatten) else none
theorem sha_Sum_ok (Fu : Nat) {S0 : Snap} (Aa0 : Option Addr) (ca0 : Nat) (a0 : List (List UInt8)) (hsa0 : slS (tyL ty8) S0 Aa0 ca0 a0) (r : List UInt8) (hf : sha_Sum Fu a0 = some r) (w0 : World) (hm : Mem w0 (ownL ([] ++ [.sn S0])) ([] ++ [.sn S0]) w0) :
    Calls Tryd.prog 55 #[.slice Aa0 a0.length ca0] w0 (Ret w0 S0 [] (fun v L1 S1 => ∃ (k : List Value), v = .agg k.toArray ∧ L1 = [] ∧ (tyA 32 ty8).rep S1 k r ∧ True)) := by
  have hw := hm.snOK (i := 0) rfl
  unfold sha_Sum at hf
  split at hf
  · rename_i ht
    cases hf
    have h1 := hsa0.1; have h2 := hsa0.2.1
    exact (sum_ok w0 Aa0 a0 ca0 (slS_lists hsa0 hw) (by unfold maxLen at h2; omega) ht).mono fun e w' ⟨he, hb⟩ => ret_below hm he hb ⟨_, rfl, rfl, ⟨rep8 _ _, shaS_length _⟩, trivial⟩
  · cases hf
def chatelaineref05_Sum (Fu : Nat) (a0 : List UInt8) : Option (List UInt8) := if a0.length ≤ 1099511627776 then some (shaS a0) else none
theorem chatelaineref05_Sum_ok (Fu : Nat) {S0 : Snap} (Aa0 : Option Addr) (ca0 : Nat) (a0 : List UInt8) (hsa0 : slS ty8 S0 Aa0 ca0 a0) (r : List UInt8) (hf : chatelaineref05_Sum Fu a0 = some r) (w0 : World) (hm : Mem w0 (ownL ([] ++ [.sn S0])) ([] ++ [.sn S0]) w0) :
    Calls Tryd.prog 35 #[.slice Aa0 a0.length ca0] w0 (Ret w0 S0 [] (fun v L1 S1 => ∃ (k : List Value), v = .agg k.toArray ∧ L1 = [] ∧ (tyA 32 ty8).rep S1 k r ∧ True)) := by
  have hw := hm.snOK (i := 0) rfl
  unfold chatelaineref05_Sum at hf
  split at hf
  · rename_i ht
    cases hf
    exact (rsum_ok w0 Aa0 a0 ca0 (slS_bytes hsa0 hw) ht).mono fun e w' ⟨he, hb⟩ => ret_below hm he hb ⟨_, rfl, rfl, ⟨rep8 _ _, shaS_length _⟩, trivial⟩
  · cases hf
end
end
section
set_option maxHeartbeats 1000000 in
set_option maxRecDepth 100000 in
theorem indexByte0 (s : ByteArray) (c : Int) (w : World) :
    Calls Tryd.prog 79 #[.string s, .int .u8 c] w fun e w' => e = .returned (.int .i64 (Lib.indexByte s.data.toList c.toNat.toUInt8)) ∧ w' = w := by
  go_enter Tryd.func79, Tryd.ntmps79
  go_wp2
  rw [run_callFunc_extern Tryd.func95 (by kernel_rfl) (by kernel_rfl) (by kernel_rfl) (e := Extern.BytealgIndexByte.indexByte) (by kernel_rfl), Lib.run_indexByteString]
  simp only [Result.andThen]
  rw [Oper.upon_value]
  go_wp2
  go_ret
  exact ⟨rfl, rfl⟩
set_option maxHeartbeats 1000000 in
theorem indexByte1 (s : ByteArray) (c : Int) (w : World) :
    Calls Tryd.prog 60 #[.string s, .int .u8 c] w fun e w' => e = .returned (.int .i64 (Lib.indexByte s.data.toList c.toNat.toUInt8)) ∧ w' = w := by
  go_enter Tryd.func60, Tryd.ntmps60
  go_wp2_with (go_at_call 79; refine (indexByte0 _ _ _).mono ?_; rintro e w' ⟨rfl, rfl⟩)
  go_ret
  exact ⟨rfl, rfl⟩
def strings_IndexByte (Fu : Nat) (a0 : List UInt8) (a1 : UInt8) : Option Int := some (Lib.indexByte a0 a1)
theorem indexByte_lt (l : List UInt8) (c : UInt8) : Lib.indexByte l c ≤ l.length := by
  induction l with
  | nil => simp [Lib.indexByte]
  | cons b l ih =>
    rw [Lib.indexByte]
    split
    · simp; omega
    · split
      · simp; omega
      · simp; omega
theorem strings_IndexByte_ok (Fu : Nat) {S0 : Snap} (a0 : List UInt8) (hra0 : a0.length ≤ maxLen) (a1 : UInt8) (r : Int) (hf : strings_IndexByte Fu a0 a1 = some r) (w0 : World) (hm : Mem w0 (ownL ([] ++ [.sn S0])) ([] ++ [.sn S0]) w0) :
    Calls Tryd.prog 60 #[.string (sb a0), .int .u8 (a1.toNat : Int)] w0 (Ret w0 S0 [] (fun v L1 S1 => v = .int .i64 r ∧ L1 = [] ∧ r64 r ∧ True)) := by
  cases hf
  refine (indexByte1 (sb a0) (a1.toNat : Int) w0).mono fun e w' ⟨he, hw⟩ => ?_
  subst hw
  have e1 : (sb a0).data.toList = a0 := by simp [sb]
  have e2 : ((a1.toNat : Int).toNat).toUInt8 = a1 := by apply UInt8.toNat_inj.1; simp
  rw [e1, e2] at he
  have h1 := Lib.indexByte_ge a0 a1
  have h2 := indexByte_lt a0 a1
  unfold maxLen at hra0
  exact ret_below hm he (Below.refl _ _) ⟨rfl, rfl, by unfold r64; omega, trivial⟩
end
end
section
theorem sb_toList (l : List UInt8) : (sb l).toList = l := by rw [Go.Lib.toList_data]; simp [sb]
theorem sb_size (l : List UInt8) : (sb l).size = l.length := by simp [sb, ByteArray.size]
theorem sb_app (a b : List UInt8) : sb a ++ sb b = sb (a ++ b) := by
  apply Go.WideShapes.bytes_inj
  rw [ByteArray.data_append]
  simp [sb]
theorem sb_sub (l : List UInt8) (m n : Nat) : (sb l).extract m n = sb ((l.take n).drop m) := by
  apply Go.WideShapes.bytes_inj
  rw [Go.Lib.extract_data, List.drop_take]
  simp [sb]
/-- one behind the other -/
def sapp (a b : List UInt8) : Option (List UInt8) := if a.length + b.length ≤ maxLen then some (a ++ b) else none
theorem sapp_some {a b r : List UInt8} (h : sapp a b = some r) : r = a ++ b ∧ r.length ≤ maxLen := by
  unfold sapp at h
  split at h
  · next hh => obtain rfl := Option.some.inj h; exact ⟨rfl, by rw [List.length_append]; exact hh⟩
  · cases h
section
variable {P : Program} {o : Oper} {a : Act} {w : World} {N : Nat} {ρ : Slots} {x y : Operand} {t t' : TypeId} {S : Snap}
theorem x_addS (h : Knows N ρ a) (ho : o.op = .binOp .add t x y t') {p q r : List UInt8} (hx : ev ρ x = some (.string (sb p))) (hy : ev ρ y = some (.string (sb q))) (hr : sapp p q = some r) : (execOp a.eval o).run P w = .ok (.value (.string (sb r))) w := by
  obtain ⟨rfl, hl⟩ := sapp_some hr
  have he : (eqGuard .add t x y (.string (sb p)) (.string (sb q))).run P w = .ok () w := rfl
  rw [List.length_append] at hl
  unfold maxLen at hl
  have hm : ¬ (((sb p).size + (sb q).size : Nat) : Int) > IntKind.i64.max := by
    rw [sb_size, sb_size, show IntKind.i64.max = 9223372036854775807 from rfl]; omega
  have hq : (binOp .add t (.string (sb p)) (.string (sb q))).run P w = .ok (.string (sb (p ++ q))) w := by
    simp only [binOp, Op.stringOp]
    rw [if_neg hm, sb_app]; rfl
  simp [execOp, ho, h.eval hx, h.eval hy, he, hq, Result.andThen]
theorem str_eq (p q : List UInt8) : ((sb p).toList == (sb q).toList) = decide (p = q) := by
  rw [sb_toList, sb_toList, Bool.eq_iff_iff]; simp
theorem x_eqlStr (h : Knows N ρ a) (ho : o.op = .binOp .eql t x y t') {p q : List UInt8} (hx : ev ρ x = some (.string (sb p))) (hy : ev ρ y = some (.string (sb q))) : (execOp a.eval o).run P w = .ok (.value (.bool (decide (p = q)))) w := by
  have he : (eqGuard .eql t x y (.string (sb p)) (.string (sb q))).run P w = .ok () w := rfl
  have hq : (binOp .eql t (.string (sb p)) (.string (sb q))).run P w = .ok (.bool (decide (p = q))) w := by
    simp only [binOp, Op.stringOp, str_eq]; rfl
  simp [execOp, ho, h.eval hx, h.eval hy, he, hq, Result.andThen]
theorem x_neqStr (h : Knows N ρ a) (ho : o.op = .binOp .neq t x y t') {p q : List UInt8} (hx : ev ρ x = some (.string (sb p))) (hy : ev ρ y = some (.string (sb q))) : (execOp a.eval o).run P w = .ok (.value (.bool (!decide (p = q)))) w := by
  have he : (eqGuard .neq t x y (.string (sb p)) (.string (sb q))).run P w = .ok () w := rfl
  have hq : (binOp .neq t (.string (sb p)) (.string (sb q))).run P w = .ok (.bool (!decide (p = q))) w := by
    simp only [binOp, Op.stringOp, str_eq]; rfl
  simp [execOp, ho, h.eval hx, h.eval hy, he, hq, Result.andThen]
theorem x_lenStr (h : Knows N ρ a) (ho : o.op = .call { callee := .builtin .len, args := #[x], argTypes := #[t] }) (ht : P.underlying t = some .string) {p : List UInt8} (hx : ev ρ x = some (.string (sb p))) : (execOp a.eval o).run P w = .ok (.value (.int .i64 (p.length : Int))) w := by
  rw [← sb_size]
  simp [execOp, ho, resolve, invoke, builtin, h.eval hx, Builtin.len_, run_underlying ht, goInt]
theorem x_sliceStr (h : Knows N ρ a) {lo hi : Option Operand} (ho : o.op = .slice t x lo hi none) (ht : P.underlying t = some .string) {p r : List UInt8} (hx : ev ρ x = some (.string (sb p))) {l g : Nat} (hr : r = (p.take g).drop l) (hlo : Bd ρ lo 0 l) (hhi : Bd ρ hi p.length g) (h1 : l ≤ g) (h2 : g ≤ p.length) : (execOp a.eval o).run P w = .ok (.value (.string (sb r))) w := by
  subst hr
  rw [← sb_sub]
  exact x_sliceS h ho ht hx l g hlo (by rw [sb_size]; exact hhi) h1 (by rw [sb_size]; exact h2)
theorem x_indexStr (h : Knows N ρ a) (ho : o.op = .index t x y) (ht : P.underlying t = some .string) {p : List UInt8} (hx : ev ρ x = some (.string (sb p))) {kd : IntKind} {j : Int} (hy : ev ρ y = some (.int kd j)) {m : Nat} (hj : j = (m : Int)) {c : UInt8} (hc : p[m]? = some c) : (execOp a.eval o).run P w = .ok (.value (.int .u8 (c.toNat : Int))) w := by
  subst hj
  have hm : (sb p)[m]? = some c := by
    have := (List.getElem?_eq_some_iff.1 hc)
    obtain ⟨h1, h2⟩ := this
    rw [getElem?_pos (sb p) m (by rw [sb_size]; exact h1)]
    simp [sb, ByteArray.getElem_eq_getElem_data, h2]
  simp [execOp, ho, h.eval hx, h.eval hy, Instr.index, run_underlying ht, asIntOf, hm]
theorem by_map {S : Snap} {vs : List Value} {l : List UInt8} (h : reps ty8 S vs l) : vs = (l.map fun x => (x.toNat : Int)).map (Value.int .u8) := by
  rw [h.map (f := fun x => Value.int .u8 (x.toNat : Int)) (fun h => h), List.map_map]; rfl
theorem fold_push : ∀ (l : List UInt8) (r : ByteArray), (l.map fun x => (x.toNat : Int)).foldl (fun r n => r.push (UInt8.ofNat n.toNat)) r = r ++ sb l
  | [], r => by
    apply Go.WideShapes.bytes_inj
    rw [ByteArray.data_append]; simp [sb]
  | x :: l, r => by
    rw [List.map_cons, List.foldl_cons, fold_push l]
    apply Go.WideShapes.bytes_inj
    rw [ByteArray.data_append, ByteArray.data_append]
    simp [sb, ByteArray.push]
theorem x_convBS (h : Knows N ρ a) (ho : o.op = .convert t t' x) {e : TypeId} (ht : P.underlying t = some (.slice e)) (he : P.underlying e = some (.int .u8)) (ht' : P.underlying t' = some .string) {A : Option Addr} {c : Nat} {l : List UInt8} {vs : List Value} (hx : ev ρ x = some (.slice A l.length c)) (hv : reps ty8 S vs l) (hr : Rd w A vs) : (execOp a.eval o).run P w = .ok (.value (.string (sb l))) w := by
  have hl := hv.len
  rw [show ty8.sz = 1 from rfl, Nat.mul_one] at hl
  have key : (Conv.bytesToString (.slice A l.length c)).run P w = .ok (.string (sb l)) w := by
    cases A with
    | none =>
      cases l with
      | nil => rfl
      | cons z l =>
        have h0 : 0 < vs.length := by rw [hl]; simp
        obtain ⟨ad, e', _⟩ := hr 0 vs[0] (List.getElem?_eq_getElem h0)
        cases e'
    | some ad =>
      have hld : (loadCells ad l.length).run P w = .ok ((l.map fun x => (x.toNat : Int)).map (Value.int .u8)).toArray w := by
        have h1 := run_loadCells_list (P := P) (w := w) ad vs (fun j v hj => by
          obtain ⟨ad', e', h2⟩ := hr j v hj
          cases e'; exact h2)
        rw [hl] at h1
        rw [by_map hv] at h1
        exact h1
      rw [run_bytesToString w ad l.length c _ hld, fold_push]
      congr 2
  simp [execOp, ho, h.eval hx, convert, run_underlying ht, run_underlying ht', run_underlying he, key]
end
end
end Go.Proofs.YtcjleeclpmgbjaaDoor
