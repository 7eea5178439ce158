/- Texts put together. -/
import Derived.Test.YtcjleeclpmgbjaaDoorE46F
import Derived.Test.YtcjleeclpmgbjaaDoorEb
import Derived.Test.YtcjleeclpmgbjaaDoorPu
import Derived.Shelf.Vars
import Derived.Lib.LaidTab
import Derived.Lib.ItoaMem
import Derived.HandedShaped
set_option linter.unusedVariables false
set_option linter.unusedSimpArgs false
namespace Go.Proofs.YtcjleeclpmgbjaaDoor
open Go.RowKit
section
section
def okR (b : Nat) : Bool := match lt5 (UInt8.ofNat b) with
  | some k => decide (chatelaineref46_letter 0 (UInt8.ofNat b) = some (k : Int)) && decide ([w64 (Int.tdiv (k : Int) 16), Int.tmod (w64 (Int.tdiv (k : Int) 8)) 2, Int.tmod (w64 (Int.tdiv (k : Int) 4)) 2, Int.tmod (w64 (Int.tdiv (k : Int) 2)) 2, Int.tmod (k : Int) 2] = mI (bD k 5))
  | none => decide (chatelaineref46_letter 0 (UInt8.ofNat b) = some (-1))
theorem okR_all : ∀ b : Fin 256, okR b.val = true := by decide +kernel
theorem let_some (Fu : Nat) {b : UInt8} {k : Nat} (h : lt5 b = some k) : chatelaineref46_letter Fu b = some (k : Int) ∧ [w64 (Int.tdiv (k : Int) 16), Int.tmod (w64 (Int.tdiv (k : Int) 8)) 2, Int.tmod (w64 (Int.tdiv (k : Int) 4)) 2, Int.tmod (w64 (Int.tdiv (k : Int) 2)) 2, Int.tmod (k : Int) 2] = mI (bD k 5) := by
  have := okR_all ⟨b.toNat, b.toNat_lt⟩
  unfold okR at this
  dsimp only at this
  rw [UInt8.ofNat_toNat, h] at this
  simp only [Bool.and_eq_true, decide_eq_true_eq] at this
  exact this
theorem let_none (Fu : Nat) {b : UInt8} (h : lt5 b = none) : chatelaineref46_letter Fu b = some (-1) := by
  have := okR_all ⟨b.toNat, b.toNat_lt⟩
  unfold okR at this
  dsimp only at this
  rw [UInt8.ofNat_toNat, h] at this
  simp only [decide_eq_true_eq] at this
  exact this
theorem rB0 (Fu : Nat) (s : List UInt8) (hs : s.length ≤ 1000) : ∀ (d i k : Nat) (acc : List Nat), i + d = s.length → d < k → acc.length ≤ 5 * i →
    chatelaineref46_Bytes_l0 Fu s k (mI acc) (i : Int) = some (match numL (s.drop i) with | some K => .inr (mI (acc ++ kB K)) | none => .inl ([], false)) := by
  intro d
  induction d with
  | zero =>
    intro i k acc hi hk ha
    obtain ⟨k, rfl⟩ : ∃ m, k = m + 1 := ⟨k - 1, by omega⟩
    rw [chatelaineref46_Bytes_l0, if_neg (by omega), List.drop_of_length_le (by omega)]; simp [numL, kB]
  | succ d ih =>
    intro i k acc hi hk ha
    obtain ⟨k, rfl⟩ : ∃ m, k = m + 1 := ⟨k - 1, by omega⟩
    have hlt : i < s.length := by omega
    rw [chatelaineref46_Bytes_l0, if_pos (by omega), idx_nat, List.getElem?_eq_getElem hlt, List.drop_eq_getElem_cons hlt, numL]
    simp only [Option.bind_some]
    cases hl : lt5 s[i] with
    | none =>
      rw [let_none Fu hl]
      simp only [Option.bind_some]
      rw [if_pos (by decide)]
    | some q =>
      have hq := let_some Fu hl
      rw [hq.1]
      simp only [Option.bind_some]
      rw [if_neg (by omega), hq.2, app8 _ _ (by rw [mI_len, mI_len, bD_len]; omega)]
      simp only [Option.bind_some]
      rw [← mI_app, w_id (by omega), show ((i : Int) + 1) = ((i + 1 : Nat) : Int) by omega, ih (i + 1) k _ (by omega) (by omega) (by rw [List.length_append, bD_len]; omega)]
      cases numL (s.drop (i + 1)) with
      | none => rfl
      | some K => dsimp only; rw [kB_cons, List.append_assoc]
end
section
theorem bD_at (x : Nat) : ∀ (n j : Nat), j < n → (bD x n)[j]? = some (x / 2 ^ (n - 1 - j) % 2)
  | n + 1, 0, _ => by rw [bD]; rfl
  | n + 1, j + 1, h => by
    rw [bD, List.getElem?_cons_succ, bD_at x n j (by omega), show n + 1 - 1 - (j + 1) = n - 1 - j by omega]
theorem rB2 (Fu : Nat) (X : List Nat) (p c : Nat) (hX : X.length ≤ 100000) (hp : p + 8 ≤ X.length) (hc : c < 256) (hat : ∀ j, j < 8 → X[p + j]? = some (c / 2 ^ (7 - j) % 2)) : ∀ (d j k : Nat), j + d = 8 → d < k →
    chatelaineref46_Bytes_l2 Fu (mI X) (p : Int) k ((c / 2 ^ (8 - j) : Nat) : Int) (j : Int) = some (c : Int) := by
  intro d
  induction d with
  | zero =>
    intro j k hj hk
    obtain ⟨k, rfl⟩ : ∃ m, k = m + 1 := ⟨k - 1, by omega⟩
    obtain rfl : j = 8 := by omega
    rw [chatelaineref46_Bytes_l2, if_neg (by omega)]; simp
  | succ d ih =>
    intro j k hj hk
    obtain ⟨k, rfl⟩ : ∃ m, k = m + 1 := ⟨k - 1, by omega⟩
    have hle := Nat.div_le_self c (2 ^ (8 - j))
    have hb := Nat.mod_lt (c / 2 ^ (7 - j)) (show 0 < 2 by omega)
    have e : 2 * (c / 2 ^ (8 - j)) + c / 2 ^ (7 - j) % 2 = c / 2 ^ (7 - j) := by
      rw [show 8 - j = (7 - j) + 1 by omega, Nat.pow_succ, ← Nat.div_div_eq_div_mul]; omega
    rw [chatelaineref46_Bytes_l2, if_pos (by omega), mI_len, w_id (by omega), show (p : Int) + (j : Int) = ((p + j : Nat) : Int) by omega, ix_nat (by omega)]
    simp only [Option.bind_some]
    rw [mI_at, hat j (by omega)]
    simp only [Option.map_some, Option.bind_some]
    rw [w_id (x := 2 * _) (by omega), w_id (by omega), w_id (by omega), show 2 * ((c / 2 ^ (8 - j) : Nat) : Int) + ((c / 2 ^ (7 - j) % 2 : Nat) : Int) = ((2 * (c / 2 ^ (8 - j)) + c / 2 ^ (7 - j) % 2 : Nat) : Int) by omega, e, show ((j : Int) + 1) = ((j + 1 : Nat) : Int) by omega, show 7 - j = 8 - (j + 1) by omega]
    exact ih (j + 1) k (by omega) (by omega)
theorem rB1 (Fu : Nat) (hF : 300 ≤ Fu) (X r : List Nat) (hr : r.length < 8) (hX : X.length ≤ 100000) : ∀ (out : List UInt8) (pre : List Nat) (acc : List UInt8) (k : Nat), X = pre ++ (bitsN out ++ r) → out.length < k → acc.length ≤ pre.length →
    chatelaineref46_Bytes_l1 Fu (mI X) k acc (pre.length : Int) = some (acc ++ out) := by
  intro out
  induction out with
  | nil =>
    intro pre acc k hx hk ha
    obtain ⟨k, rfl⟩ : ∃ m, k = m + 1 := ⟨k - 1, by omega⟩
    have hl := congrArg List.length hx
    simp only [bitsN, List.flatMap_nil, List.nil_append, List.length_append] at hl
    rw [chatelaineref46_Bytes_l1, mI_len, w_id (by omega), if_neg (by omega), List.append_nil]
  | cons c out ih =>
    intro pre acc k hx hk ha
    obtain ⟨k, rfl⟩ : ∃ m, k = m + 1 := ⟨k - 1, by omega⟩
    rw [bitsN_cons, List.append_assoc] at hx
    have hl := congrArg List.length hx
    simp only [List.length_append, bD_len] at hl
    have h2 := rB2 Fu X pre.length c.toNat hX (by omega) c.toNat_lt (fun j hj => by
      rw [hx, List.getElem?_append_right (by omega), Nat.add_sub_cancel_left, List.getElem?_append_left (by rw [bD_len]; omega), bD_at _ _ _ hj]) 8 0 Fu (by omega) (by omega)
    rw [show c.toNat / 2 ^ (8 - 0) = 0 from Nat.div_eq_of_lt c.toNat_lt] at h2
    rw [show ((0 : Nat) : Int) = 0 from rfl] at h2
    rw [chatelaineref46_Bytes_l1, mI_len, w_id (by omega), if_pos (by omega), h2]
    simp only [Option.bind_some]
    rw [i8_nat, UInt8.ofNat_toNat]
    have e1 : app 1 acc [c] = some (acc ++ [c]) := by unfold app; rw [if_pos (by unfold maxLen; simp; omega)]
    rw [e1]
    simp only [Option.bind_some]
    have := ih (pre ++ bD c.toNat 8) (acc ++ [c]) k (by rw [hx, List.append_assoc]) (by simp at hk; omega) (by simp [bD_len]; omega)
    rw [List.length_append, bD_len] at this
    rw [show (pre.length : Int) + 8 = ((pre.length + 8 : Nat) : Int) by omega, this, List.append_assoc]; rfl
theorem rBytes (Fu : Nat) (hF : 2000 ≤ Fu) (s : List UInt8) (hs : s.length ≤ 300) : chatelaineref46_Bytes Fu s = some (match numL s with | some K => if (ub 0 0 K).2.1 < 5 ∧ (ub 0 0 K).2.2 = 0 then ((ub 0 0 K).1, true) else ([], false) | none => ([], false)) := by
  have h := rB0 Fu s (by omega) s.length 0 Fu [] (by omega) (by omega) (by simp)
  rw [List.drop_zero, show mI [] = [] from rfl, show ((0 : Nat) : Int) = 0 from rfl] at h
  unfold chatelaineref46_Bytes
  rw [h]
  simp only [Option.bind_some]
  cases hn : numL s with
  | none => rfl
  | some K =>
    dsimp only
    rw [List.nil_append]
    obtain ⟨hK1, hK2⟩ := numL_al s K hn
    obtain ⟨h1, h2, h3⟩ := ub_bits K 0 0 (by omega) (by omega) hK2
    rw [show bD 0 0 = [] from rfl, List.nil_append] at h1
    have hKl : K.length = s.length := by rw [hK1, List.length_map]
    have hl := congrArg List.length h1
    rw [kB_len, List.length_append, bitsN_len, bD_len] at hl
    have hb1 := rB1 Fu (by omega) (kB K) (bD (ub 0 0 K).2.2 (ub 0 0 K).2.1) (by rw [bD_len]; exact h2) (by rw [kB_len]; omega) (ub 0 0 K).1 [] [] Fu (by rw [List.nil_append]; exact h1) (by omega) (by simp)
    rw [show (([] : List Nat).length : Int) = 0 from rfl] at hb1
    rw [hb1]
    simp only [Option.bind_some, List.nil_append]
    rw [rLetters Fu hF _ (by omega)]
    simp only [Option.bind_some]
    have hi := ub_iff K hK2
    rw [← hK1] at hi
    by_cases hc : (ub 0 0 K).2.1 < 5 ∧ (ub 0 0 K).2.2 = 0
    · rw [if_pos hc, if_neg (by simp [hi.2 hc])]
    · rw [if_neg hc, if_pos (by simp; exact fun e => hc (hi.1 e))]
end
end
section
section
theorem same8_l0 (Fu : Nat) (a b : List UInt8) (ha : a.length < 1000000) (hab : a.length = b.length) : ∀ (d k i : Nat), i + d = a.length → d < k → chatelaineref01_Same_l0 Fu a b k i = some (if a.drop i = b.drop i then .inr () else .inl false) := by
  intro d
  induction d with
  | zero =>
    intro k i hi hk
    obtain ⟨k, rfl⟩ : ∃ m, k = m + 1 := ⟨k - 1, by omega⟩
    rw [chatelaineref01_Same_l0, if_neg (by omega), List.drop_of_length_le (by omega), List.drop_of_length_le (by omega), if_pos rfl]
  | succ d ih =>
    intro k i hi hk
    obtain ⟨k, rfl⟩ : ∃ m, k = m + 1 := ⟨k - 1, by omega⟩
    rw [chatelaineref01_Same_l0, if_pos (by omega), idx_nat, idx_nat, List.getElem?_eq_getElem (show i < a.length by omega), List.getElem?_eq_getElem (show i < b.length by omega)]
    simp only [Option.bind_some]
    rw [List.drop_eq_getElem_cons (show i < a.length by omega), List.drop_eq_getElem_cons (show i < b.length by omega)]
    have hw : w64 ((i : Int) + 1) = ((i + 1 : Nat) : Int) := by rw [w64_of (by omega)]; omega
    by_cases h : a[i]'(by omega) = b[i]'(by omega)
    · rw [if_neg (by rw [h]; simp), hw, ih k (i + 1) (by omega) (by omega)]
      simp only [h, List.cons.injEq, true_and]
    · rw [if_pos (fun e => h (UInt8.toNat_inj.1 (by omega))), if_neg (by simp only [List.cons.injEq, h, false_and, not_false_eq_true])]
theorem same8 (Fu : Nat) (a b : List UInt8) (h : a.length < Fu) (ha : a.length < 1000000) : chatelaineref01_Same Fu a b = some (decide (a = b)) := by
  unfold chatelaineref01_Same
  by_cases hl : a.length = b.length
  · rw [if_neg (by omega)]
    have := same8_l0 Fu a b ha hl a.length Fu 0 (by omega) h
    rw [show ((0 : Nat) : Int) = 0 from rfl] at this
    rw [this]
    by_cases e : a = b <;> simp [e]
  · rw [if_pos (by omega), show decide (a = b) = false from decide_eq_false (fun e => hl (by rw [e]))]
end
section
def GLW (w : World) : Prop :=
 (∃ m, w.cell? ⟨1, 0, none⟩ = some (.int .i64 m)) ∧
  True
def GL (S : Snap) : Prop := ∀ w, SnapOK S w → GLW w
theorem GL.mono {S S' : Snap} (h : GL S) (l : S.le S') : GL S' := fun w hw => h w (SnapOK.le l hw)
theorem gl_cell {W w : World} {b o : Nat} {v : Value} (h : W.cell? ⟨b, o, none⟩ = some v) (hw : SnapOK (snapAll W) w) : w.cell? ⟨b, o, none⟩ = some v := by
  unfold World.cell? at h ⊢
  cases hb : W.heap[b]? with
  | none => simp [hb] at h
  | some x => have := hw b x hb; simp only [hb] at h; simp only [this]; exact h
theorem gl_start {W : World} (hSh : W.ShapedOpen Tryd.prog) : GL (snapAll W) := fun w hw =>
  ⟨
  (cell_of_shapedOpen_int (g := 1) (t := 3) (k := .i64) (zero := #[.int .i64 0]) hSh (of_decide_eq_true (by kernel_rfl)) (by kernel_rfl) (by kernel_rfl) (by kernel_rfl) (by kernel_rfl) Tryd.underlying3).imp fun m hm => gl_cell hm hw,
   trivial⟩
/-- the row's wrap: a condition X on memory, and the world's shape handed on -/
theorem returnsInHanded_of_change_both {H : Type} {enc : TypeId × Value → H} {a : Assume} {C : Checked} {os : Os} {f : FuncId} {fn : Func} {s : ChangeSpec} {conds : List PathCond} {apart fresh handsOn again : Bool} {X : World → Array Value → Prop}
    (hX : ∀ (w w' : World) (args : Array Value), w.heap = w'.heap → X w args → X w' args)
    (own : ownKnob C.prog.godebug = none) (started : os.Started) (noInit : C.prog.inits.idxOf? f = none) (hfn : C.prog.funcs[f]? = some fn)
    (witness : ∃ (w : World) (tape : Tape) (i : Input), w.os = os ∧ (w.forCall tape i).Shaped C.prog ∧ i.vars = [] ∧ Input.okWide C.prog (w.forCall tape i) .any w.heap.size f i ∧
      ((s.pre enc C.prog fn conds apart (w.forCall tape i).memory i.args ∧ X (w.forCall tape i).memory i.args) ∧ sizedMet enc C.prog fn (OpenSpec.ofChange s) apart (w.forCall tape i).memory i.args) ∧ a.holds C.prog (lone (Frame.enter C.prog f i.args .normal) [] (w.forCall tape i)))
    (contract : ∀ (W : World) (base : Nat) (args : Array Value) (ds gs : List (DataW H)) (before : List MemPlace),
      (∀ (j : Nat) t v, fn.params[j]? = some t → args[j]? = some v → Value.okWide C.prog W .any base t v) →
      DataW.Whole enc C.prog fn.params.toList s.vars apart W args.toList ds gs before →
      conds.all (PathCond.test C.prog ⟨fn.params.toList, ds, s.plain.varTypes C.prog, gs⟩) = true →
      (DataW.weightsEach C.prog (fn.params.toList ++ s.plain.varTypes C.prog) (ds ++ gs)).all (· ≤ reachBytes) = true → X W args → W.ShapedOpen C.prog →
      a.holds C.prog (lone (Frame.enter C.prog f args .normal) [] W) →
      Calls C.prog f args W fun e W' => ∃ v, e = .returned v ∧ s.post enc C.prog fn apart fresh handsOn again W args v W') :
    ReturnsInHanded a C os f .any (fun w args => (s.pre enc C.prog fn conds apart w args ∧ X w args) ∧ sizedMet enc C.prog fn (OpenSpec.ofChange s) apart w args) (s.post enc C.prog fn apart fresh handsOn again) := by
  refine returnsInHanded_of_calls own started noInit witness ?_
  intro w tape i _ hsh _ hok hpre hh
  obtain ⟨_, _, _, fn', hfn', _, _, _, _, hval⟩ := hok
  obtain rfl : fn' = fn := Option.some.inj (hfn'.symm.trans hfn)
  obtain ⟨⟨⟨ds, gs, before, hw, hc⟩, hx⟩, hz⟩ := hpre
  refine (contract (w.forCall tape i) w.heap.size i.args ds gs before hval (DataW.Whole.of_heap (w' := w.forCall tape i) (by rfl) hw) hc (hz.weights hw) (hX _ _ _ (by rfl) hx) hsh hh).mono ?_
  rintro e W' ⟨v, rfl, hp⟩
  exact ChangeSpec.post_blind hp
end
end
end Go.Proofs.YtcjleeclpmgbjaaDoor
