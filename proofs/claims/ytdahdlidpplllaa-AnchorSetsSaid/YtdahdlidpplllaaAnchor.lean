/- The package anchor: a slot. -/
import Derived.Test.YtdahdlidpplllaaArr
set_option linter.unusedVariables false
set_option linter.unusedSimpArgs false
namespace Go.Proofs.Ytdahdlidpplllaa
open Go.RowKit
section
variable {P : Program}
theorem built_struct {t : TypeId} {fs : Array Field} {z : Value} {places : List (Nat × Nat)} {parts : List (Nat × Value)} (hu : P.underlying t = some (.struct fs)) (hz : (P.info? t).map (·.zero) = some (some z))
    (hp : fs.toList.mapM (fun f => (P.info? f.type).map fun i => (f.offset, i.size)) = some places) : P.built t parts = Instr.fill (places.toArray[·]?) z.cells parts := by
  cases hq : P.info? t with
  | none => simp [hq] at hz
  | some it =>
    have hz' : it.zero = some z := by simpa [hq] using hz
    simp [Program.built, hq, hu, hz', hp]
theorem eqf_cons {d : Nat} {xs ys : Array Value} {f : Field} {fs : List Field} {a b : Value} {r s : Bool} {w : World} (hn : f.name ≠ "_") (ha : (part f.type xs f.offset).run P w = .ok a w) (hb : (part f.type ys f.offset).run P w = .ok b w) (he : (Op.equalIn d f.type a b).run P w = .ok r w) (hr : (Op.eqFields d xs ys fs).run P w = .ok s w) : (Op.eqFields d xs ys (f :: fs)).run P w = .ok (r && s) w := by
  rw [Op.eqFields]
  simp only [if_pos hn, Sem.run_bind, ha, hb, he, Result.andThen_ok]
  cases r
  · simp
  · simpa using hr
theorem eqf_nil {d : Nat} {xs ys : Array Value} {w : World} : (Op.eqFields d xs ys []).run P w = .ok true w := by simp [Op.eqFields]
theorem part_agg (w : World) {t : TypeId} {n : Nat} (ht : Agg P t n) (X Y Z : List Value) (off : Nat) (hX : X.length = off) (hY : Y.length = n) : (part t (X ++ Y ++ Z).toArray off).run P w = .ok (.agg Y.toArray) w := by
  obtain ⟨d, h1, h2, h3⟩ := ht
  have hag : (isAgg t).run P w = .ok true w := by
    unfold isAgg
    rw [Sem.run_bind, run_underlying h1 w]
    cases d <;> simp_all
  have hsz : (sizeOf t).run P w = .ok n w := by
    cases hq : P.info? t with
    | none => simp [hq] at h3
    | some i => 
      have : i.size = n := by simpa [hq] using h3
      simp [sizeOf, typeInfo, hq, this]
  unfold part
  simp only [Sem.run_bind, hag, Result.andThen_ok, if_true, hsz, Sem.run_pure]
  congr 2
  rw [List.extract_toArray]
  congr 1
  rw [List.extract_eq_take_drop, List.append_assoc, List.drop_left' hX, show off + n - off = n by omega, List.take_left' hY]
theorem part_one (w : World) {t : TypeId} {d : TypeDesc} (h1 : P.underlying t = some d) (h2 : d.isRow = false) (X Z : List Value) (y : Value) (off : Nat) (hX : X.length = off) : (part t (X ++ [y] ++ Z).toArray off).run P w = .ok y w := by
  have hag : (isAgg t).run P w = .ok false w := by
    unfold isAgg
    rw [Sem.run_bind, run_underlying h1 w]
    cases d <;> simp_all
  unfold part
  simp only [Sem.run_bind, hag, Result.andThen_ok, Bool.false_eq_true, if_false]
  have : (X ++ [y] ++ Z).toArray[off]? = some y := by simp [← hX]
  rw [this]; rfl
end
def zero32 : List UInt8 := List.replicate 32 0
def rootL (c : Int) (k s : List UInt8) : List Value := [.int .i64 c] ++ by8 k ++ by8 s
def slotL (c : Int) (k s : List UInt8) (lim : Int) : List Value := rootL c k s ++ [.int .i64 lim, .bool true]
theorem rootL_length (c : Int) (k s : List UInt8) (hk : k.length = 32) (hs : s.length = 32) : (rootL c k s).length = 65 := by simp [rootL, by8_length, hk, hs]
theorem slotL_length (c : Int) (k s : List UInt8) (lim : Int) (hk : k.length = 32) (hs : s.length = 32) : (slotL c k s lim).length = 67 := by simp [slotL, rootL_length c k s hk hs]
theorem rootL_one (c : Int) (k s : List UInt8) : ∀ v ∈ rootL c k s, v.oneCell' = true := by
  intro v hv
  simp only [rootL, List.mem_append, List.mem_cons, List.not_mem_nil, or_false] at hv
  rcases hv with (rfl | hv) | hv
  · rfl
  · exact by8_one k v hv
  · exact by8_one s v hv
theorem agg_key : Agg Try.prog 50 32 := ⟨_, Try.underlying50, rfl, by kernel_rfl⟩
theorem agg_root : Agg Try.prog 56 65 := ⟨_, Try.underlying56, rfl, by kernel_rfl⟩
theorem agg_slot : Agg Try.prog 115 67 := ⟨_, Try.underlying115, rfl, by kernel_rfl⟩
theorem root_zero : (Try.prog.info? 56).map (·.zero) = some (some (.agg (rootL 0 zero32 zero32).toArray)) := by kernel_rfl
theorem slot_zero : (Try.prog.info? 115).map (·.zero) = some (some (.agg (rootL 0 zero32 zero32 ++ [Value.int .i64 0, Value.bool false]).toArray)) := by kernel_rfl
theorem built_root (parts : List (Nat × Value)) : Try.prog.built 56 parts = Instr.fill ([(0, 1), (1, 32), (33, 32)].toArray[·]?) (rootL 0 zero32 zero32).toArray parts :=
  built_struct Try.underlying56 root_zero (by kernel_rfl)
theorem built_slot (parts : List (Nat × Value)) : Try.prog.built 115 parts = Instr.fill ([(0, 65), (65, 1), (66, 1)].toArray[·]?) (rootL 0 zero32 zero32 ++ [Value.int .i64 0, Value.bool false]).toArray parts :=
  built_struct Try.underlying115 slot_zero (by kernel_rfl)
theorem fill_key (k : List UInt8) (hk : k.length = 32) (c : Int) (k0 s : List UInt8) (hk0 : k0.length = 32) (rest : List (Nat × Value)) :
    Instr.fill ([(0, 1), (1, 32), (33, 32)].toArray[·]?) (rootL c k0 s).toArray ((1, .agg (aB k)) :: rest) = Instr.fill ([(0, 1), (1, 32), (33, 32)].toArray[·]?) (rootL c k s).toArray rest := by
  rw [rootL, fill_mid (off := 1) (n := 32) rfl rfl (by rw [by8_length, hk0]) (by simp [Value.cells, aB_size, hk])]
  simp [rootL, Value.cells, aB]
theorem fill_sum (s : List UInt8) (hs : s.length = 32) (c : Int) (k s0 : List UInt8) (hk : k.length = 32) (hs0 : s0.length = 32) (rest : List (Nat × Value)) :
    Instr.fill ([(0, 1), (1, 32), (33, 32)].toArray[·]?) (rootL c k s0).toArray ((2, .agg (aB s)) :: rest) = Instr.fill ([(0, 1), (1, 32), (33, 32)].toArray[·]?) (rootL c k s).toArray rest := by
  have e : ∀ s, rootL c k s = (.int .i64 c :: by8 k) ++ by8 s ++ [] := by intro s; simp [rootL]
  rw [e s0, fill_mid (off := 33) (n := 32) rfl (by simp [by8_length, hk]) (by rw [by8_length, hs0]) (by simp [Value.cells, aB_size, hs]), e s]
  simp [Value.cells, aB]
theorem fill_count (c : Int) (k s : List UInt8) (c0 : Int) (rest : List (Nat × Value)) :
    Instr.fill ([(0, 1), (1, 32), (33, 32)].toArray[·]?) (rootL c0 k s).toArray ((0, .int .i64 c) :: rest) = Instr.fill ([(0, 1), (1, 32), (33, 32)].toArray[·]?) (rootL c k s).toArray rest := by
  have e : ∀ c, rootL c k s = [] ++ [.int .i64 c] ++ (by8 k ++ by8 s) := by intro c; simp [rootL]
  rw [e c0, fill_mid (off := 0) (n := 1) rfl rfl rfl rfl, e c]
  rfl
theorem built_root_key (k : List UInt8) (hk : k.length = 32) : Try.prog.built 56 [(1, .agg (aB k))] = some (rootL 0 k zero32).toArray := by
  rw [built_root, fill_key k hk _ _ _ rfl, Instr.fill]
theorem built_root_all (c : Int) (k s : List UInt8) (hk : k.length = 32) (hs : s.length = 32) : Try.prog.built 56 [(0, .int .i64 c), (1, .agg (aB k)), (2, .agg (aB s))] = some (rootL c k s).toArray := by
  rw [built_root, fill_count, fill_key k hk _ _ _ rfl, fill_sum s hs _ _ _ hk rfl, Instr.fill]
theorem built_slot_all (c : Int) (k s : List UInt8) (lim : Int) (hk : k.length = 32) (hs : s.length = 32) :
    Try.prog.built 115 [(0, .agg (rootL c k s).toArray), (1, .int .i64 lim), (2, .bool true)] = some (slotL c k s lim).toArray := by
  have hl := rootL_length c k s hk hs
  rw [built_slot, show rootL 0 zero32 zero32 ++ [Value.int .i64 0, .bool false] = [] ++ rootL 0 zero32 zero32 ++ [Value.int .i64 0, .bool false] from rfl,
    fill_mid (off := 0) (n := 65) rfl rfl (by rw [rootL_length]; rfl; rfl) (by simp [Value.cells, hl])]
  rw [show [] ++ (Value.agg (rootL c k s).toArray).cells.toList ++ [Value.int .i64 0, .bool false] = rootL c k s ++ [Value.int .i64 0] ++ [.bool false] by simp [Value.cells],
    fill_mid (off := 65) (n := 1) rfl hl rfl rfl]
  rw [show rootL c k s ++ (Value.int .i64 lim).cells.toList ++ [Value.bool false] = (rootL c k s ++ [Value.int .i64 lim]) ++ [.bool false] ++ [] by simp [Value.cells],
    fill_mid (off := 66) (n := 1) rfl (by simp [hl]) rfl rfl]
  simp [slotL, Value.cells, Instr.fill]
/-- roots are compared -/
theorem eq_root (w : World) (c c' : Int) (k k' s s' : List UInt8) (hk : k.length = 32) (hs : s.length = 32) (hk' : k'.length = 32) (hs' : s'.length = 32) :
    (Op.equalIn 10000 56 (.agg (rootL c k s).toArray) (.agg (rootL c' k' s').toArray)).run Try.prog w = .ok (decide ((c, k, s) = (c', k', s'))) w := by
  have hq : Try.prog.stoodInHeld 56 = false := by kernel_rfl
  rw [run_equalIn_struct w 9999 _ _ _ (by simp only [Program.fieldsOf, Try.underlying56]) hq]
  simp only [Program.fieldsOf, Try.underlying56]
  have e : ∀ c k s, rootL c k s = (.int .i64 c :: by8 k) ++ by8 s ++ [] := by intro c k s; simp [rootL]
  have e0 : ∀ c k s, rootL c k s = [] ++ [.int .i64 c] ++ (by8 k ++ by8 s) := by intro c k s; simp [rootL]
  have he8 : Try.prog.underlying 5 = some (.int .u8) := Try.underlying5
  have hs8 : (Try.prog.info? 5).map (·.size) = some 1 := by kernel_rfl
  refine Eq.trans (b := .ok ((c == c') && ((k == k') && ((s == s') && true))) w) ?_ ?_
  · refine eqf_cons (a := .int .i64 c) (b := .int .i64 c') (by decide) ?_ ?_ (run_equalIn_int w 9998 _ .i64 .i64 c c' Try.underlying3) ?_
    · rw [e0]; exact part_one w Try.underlying3 rfl _ _ _ _ rfl
    · rw [e0]; exact part_one w Try.underlying3 rfl _ _ _ _ rfl
    refine eqf_cons (a := .agg (aB k)) (b := .agg (aB k')) (by decide) ?_ ?_ (eq_arr_bytes w 9997 32 Try.underlying50 he8 hs8 k k' hk hk') ?_
    · rw [rootL]; exact part_agg w agg_key _ _ _ _ rfl (by rw [by8_length, hk])
    · rw [rootL]; exact part_agg w agg_key _ _ _ _ rfl (by rw [by8_length, hk'])
    refine eqf_cons (a := .agg (aB s)) (b := .agg (aB s')) (by decide) ?_ ?_ (eq_arr_bytes w 9997 32 Try.underlying50 he8 hs8 s s' hs hs') eqf_nil
    · rw [e]; exact part_agg w agg_key _ _ _ _ (by simp [by8_length, hk]) (by rw [by8_length, hs])
    · rw [e]; exact part_agg w agg_key _ _ _ _ (by simp [by8_length, hk']) (by rw [by8_length, hs'])
  · refine congrArg (fun b => Result.ok b w) ?_
    by_cases h1 : c = c' <;> by_cases h2 : k = k' <;> by_cases h3 : s = s' <;> simp [h1, h2, h3]
/-- a slot at block b -/
def SL (w : World) (b : Nat) (c : Int) (k s : List UInt8) (lim : Int) : Prop := w.rangeAt b 0 (slotL c k s lim) ∧ w.there b 0 67
theorem SL.cells {w : World} {b : Nat} {c lim : Int} {k s : List UInt8} (h : SL w b c k s lim) (hk : k.length = 32) (hs : s.length = 32) :
    w.rangeAt b 0 (rootL c k s) ∧ w.cell? ⟨b, 0, none⟩ = some (.int .i64 c) ∧ w.cell? ⟨b, 65, none⟩ = some (.int .i64 lim) ∧ w.cell? ⟨b, 66, none⟩ = some (.bool true) ∧ w.frozen? ⟨b, 0, none⟩ = false := by
  have hl := rootL_length c k s hk hs
  refine ⟨fun j v hv => ?_, h.1 0 _ rfl, h.1 65 _ ?_, h.1 66 _ ?_, (h.2 0 (by omega)).2⟩
  · refine h.1 j v ?_
    have hj := (List.getElem?_eq_some_iff.1 hv).1
    rw [slotL, List.getElem?_append_left hj]; exact hv
  · rw [slotL, List.getElem?_append_right (by omega), hl]; rfl
  · rw [slotL, List.getElem?_append_right (by omega), hl]; rfl
theorem SL.chg {w w' : World} {F : Nat → Prop} {b : Nat} {c lim : Int} {k s : List UInt8} (h : SL w b c k s lim) (kc : Chg w w' F) (hb : ¬ F b) : SL w' b c k s lim := ⟨range_chg h.1 kc hb, there_chg h.2 kc hb⟩
theorem SL.below {w w' : World} {b : Nat} {c lim : Int} {k s : List UInt8} (h : SL w b c k s lim) (kc : Below w.heap.size w w') : SL w' b c k s lim := ⟨range_below h.1 kc, there_below h.2 kc⟩
theorem SL.lt {w : World} {b : Nat} {c lim : Int} {k s : List UInt8} (h : SL w b c k s lim) : b < w.heap.size := by
  obtain ⟨u, hu⟩ := Option.isSome_iff_exists.1 (h.2 0 (by omega)).1
  exact World.block_lt_of_cell? w _ hu
theorem made_ok (w : World) (b : Nat) (h : w.cell? ⟨b, 66, none⟩ = some (.bool true)) :
    Calls Try.prog 73 #[.pointer (some ⟨b, 0, none⟩)] w fun e w' => e = .returned (.bool true) ∧ w' = w := by
  go_enter Try.func73, Try.ntmps73
  go_wp2
  go_ret
  exact ⟨rfl, rfl⟩
theorem can_ok (w : World) (b : Nat) (c lim : Int) (h0 : w.cell? ⟨b, 0, none⟩ = some (.int .i64 c)) (h1 : w.cell? ⟨b, 65, none⟩ = some (.int .i64 lim)) (h2 : w.cell? ⟨b, 66, none⟩ = some (.bool true)) :
    Calls Try.prog 35 #[.pointer (some ⟨b, 0, none⟩)] w fun e w' => e = .returned (.bool (decide (c < lim))) ∧ ∃ m, w' = w.drewN m := by
  go_enter Try.func35, Try.ntmps35
  go_wp2_with fail
  go_quiet (exact Calls.quiet_of_same (made_ok _ b h2))
  go_wp2
  go_ret
  exact ⟨rfl, _, rfl⟩
theorem limit_ok (w : World) (b : Nat) (lim : Int) (h1 : w.cell? ⟨b, 65, none⟩ = some (.int .i64 lim)) (h2 : w.cell? ⟨b, 66, none⟩ = some (.bool true)) :
    Calls Try.prog 33 #[.pointer (some ⟨b, 0, none⟩)] w fun e w' => e = .returned (.int .i64 lim) ∧ w' = w := by
  go_enter Try.func33, Try.ntmps33
  go_wp2_with fail
  refine (made_ok _ b h2).mono ?_
  rintro e w1 ⟨rfl, rfl⟩
  go_wp2_with fail
  go_ret
  exact ⟨rfl, rfl⟩
theorem new_ok (w : World) (k : List UInt8) (lim : Int) (hk : k.length = 32) (h0 : 0 ≤ lim) (h1 : lim ≤ 1099511627776) :
    Calls Try.prog 31 #[.agg (aB k), .int .i64 lim] w fun e w' => ∃ b, e = .returned (.tuple #[.pointer (some ⟨b, 0, none⟩), .int .i64 0]) ∧ Below w.heap.size w w' ∧ w.heap.size ≤ b ∧ SL w' b 0 k zero32 lim := by
  have g1 : decide (lim < 0) = false := decide_eq_false (by omega)
  have g2 : decide (1099511627776 < lim) = false := decide_eq_false (by omega)
  have H := hid hk
  clear hk
  go_enter Try.func31, Try.ntmps31
  go_wp2_with (first
    | (refine ldb_op rfl 50 _ rfl _ 0 rfl agg_key k H.out (range_new _ _ _) ?_)
    | (refine bld_op rfl 56 _ rfl [(1, .agg (aB k))] (by rfl) _ (built_root_key k H.out) ?_)
    | (refine bld_op rfl 115 _ rfl [(0, .agg (rootL 0 k zero32).toArray), (1, .int .i64 lim), (2, .bool true)] (by rfl) _ (built_slot_all 0 k zero32 lim H.out rfl) ?_))
  go_ret2
  refine ⟨w.heap.size + 1, rfl, below_alloc (below_alloc (Below.refl _ _) _) _, by omega, ?_⟩
  have e : w.heap.size + 1 = (w.alloc (.cells (aB k) 50)).heap.size := by simp
  rw [e]
  refine ⟨range_new _ _ _, ?_⟩
  have := there_new (w.alloc (.cells (aB k) 50)) (slotL 0 k zero32 lim) 115
  rwa [slotL_length _ _ _ _ H.out rfl] at this
end Go.Proofs.Ytdahdlidpplllaa
