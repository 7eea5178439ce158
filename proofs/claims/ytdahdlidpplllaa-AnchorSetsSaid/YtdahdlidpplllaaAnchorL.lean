/- The statement AnchorSets, walked. -/
import Derived.Test.YtdahdlidpplllaaAnchor3
import Derived.Test.YtdahdlidpplllaaOpen
import Derived.Deep.WholeRow
set_option linter.unusedVariables false
set_option linter.unusedSimpArgs false
namespace Go.Proofs.Ytdahdlidpplllaa
open Go.RowKit

def kKey : Kn (List UInt8) := Kn.u8.arr 32
def kKeys : Kn (List (List UInt8)) := kKey.arr 2
theorem arr_bytes {n : Nat} {w : World} {l : List UInt8} {cs : List Value} (h : (Kn.u8.arr n).K w l cs) : l.length = n ∧ cs = by8 l := by
  obtain ⟨h1, h2, h3⟩ := h
  refine ⟨h1, ?_⟩
  have h2' : cs.length = n := by simpa [Kn.u8] using h2
  apply List.ext_getElem (by rw [h2', by8_length, h1])
  intro i hi hj
  have := h3 i (by omega)
  have h4 : (cs.drop (i * 1)).take 1 = [byc l[i]] := this
  rw [Nat.mul_one, List.drop_eq_getElem_cons hi, List.take_succ_cons] at h4
  have h5 := (List.cons.inj h4).1
  rw [h5]; simp [by8]
theorem opens_key : Opens Try.prog 50 kKey := Opens.arr Try.underlying50 (by kernel_rfl) (by kernel_rfl) (Opens.u8 Try.underlying5)
theorem opens_keys : Opens Try.prog 51 kKeys.slice := Opens.slice Try.underlying51 (by kernel_rfl) (by decide) (Opens.arr Try.underlying59 (by kernel_rfl) (by kernel_rfl) opens_key)
theorem keys_at {w : World} {A : Option Addr} {l : List (List (List UInt8))} (h : kKeys.At w A l) (i : Nat) (hi : i < l.length) : ∃ b off x0 x1, A = some ⟨b, off, none⟩ ∧ b < w.heap.size ∧ x0.length = 32 ∧ x1.length = 32 ∧ w.rangeAt b (off + i * 64) (by8 x0 ++ by8 x1) := by
  obtain ⟨b, off, cs, rfl, hlt, ⟨h1, h2, h3⟩, hc⟩ := h i hi
  have hsz : kKey.sz = 32 := rfl
  have hszs : kKeys.sz = 64 := rfl
  rw [hsz] at h2 h3
  rw [hszs] at hc
  obtain ⟨a0, a1⟩ := arr_bytes (h3 0 (by omega))
  obtain ⟨b0, b1⟩ := arr_bytes (h3 1 (by omega))
  refine ⟨b, off, _, _, rfl, hlt, a0, b0, fun j v hj => ?_⟩
  rw [Nat.add_assoc]
  refine hc j v ?_
  rw [← hj, ← a1, ← b1]
  simp only [Nat.zero_mul, List.drop_zero, Nat.one_mul]
  rw [show (cs.drop 32).take 32 = cs.drop 32 from List.take_of_length_le (by simp; omega), List.take_append_drop]
theorem agg_keys : Agg Try.prog 59 64 := ⟨_, Try.underlying59, rfl, by kernel_rfl⟩
theorem SL.drew {w : World} {b : Nat} {c lim : Int} {k s : List UInt8} (h : SL w b c k s lim) : SL w.drew b c k s lim := h.below (below_drewN (Below.refl _ _) 1)
def zKeys : Array Value := (List.replicate 64 (Value.int .u8 0)).toArray
theorem zero_keys : ∀ w, (zeroValue 59).run Try.prog w = .ok (.agg zKeys) w := (zero_of_info (t := 59) (v := .agg zKeys) (n := 64) (by kernel_rfl)).1
/-- the law's state -/
def AS (w0 w : World) (b g : Nat) (c : Int) (k s : List UInt8) (lim : Int) : Prop :=
  w.rangeAt g 0 (rootL c k s) ∧ w.there g 0 65 ∧ SL w b c k s lim ∧ Below w0.heap.size w0 w ∧ k.length = 32 ∧ s.length = 32 ∧ 0 ≤ c ∧ c ≤ lim
theorem AS.below {w0 w w' : World} {b g : Nat} {c lim : Int} {k s : List UInt8} (h : AS w0 w b g c k s lim) (kb : Below w.heap.size w w') : AS w0 w' b g c k s lim := by
  obtain ⟨h1, h2, h3, h4, h5⟩ := h
  exact ⟨range_below h1 kb, there_below h2 kb, h3.below kb, below_step h4 kb, h5⟩
theorem AS.drew {w0 w : World} {b g : Nat} {c lim : Int} {k s : List UInt8} (h : AS w0 w b g c k s lim) : AS w0 w.drew b g c k s lim := h.below (below_drewN (Below.refl _ _) 1)
theorem eq_root_same (w : World) (c : Int) (k s : List UInt8) (hk : k.length = 32) (hs : s.length = 32) : (Op.equalIn 10000 56 (.agg (rootL c k s).toArray) (.agg (rootL c k s).toArray)).run Try.prog w = .ok true w := by
  rw [eq_root w c c k k s s hk hs hk hs]; simp
theorem newBad_ok (w : World) (k : List UInt8) (lim : Int) (h : lim < 0 ∨ 1099511627776 < lim) :
    Calls Try.prog 31 #[.agg (aB k), .int .i64 lim] w fun e w' => e = .returned (.tuple #[.pointer none, .int .i64 2]) ∧ Below w.heap.size w w' := by
  by_cases h1 : lim < 0
  · have g1 : decide (lim < 0) = true := decide_eq_true h1
    clear h h1
    go_enter Try.func31, Try.ntmps31
    go_wp2_with fail
    go_ret2
    exact ⟨rfl, below_alloc (Below.refl _ _) _⟩
  · have g1 : decide (lim < 0) = false := decide_eq_false h1
    have g2 : decide (1099511627776 < lim) = true := decide_eq_true (by omega)
    clear h h1
    go_enter Try.func31, Try.ntmps31
    go_wp2_with fail
    go_ret2
    exact ⟨rfl, below_alloc (Below.refl _ _) _⟩
theorem root_ty (c : Int) (k s : List UInt8) (hk : k.length = 32) (hs : s.length = 32) : (Try.prog.info? 56).map (·.size) = some (rootL c k s).length := by rw [rootL_length _ _ _ hk hs]; kernel_rfl
set_option maxRecDepth 100000 in
set_option maxHeartbeats 40000000 in
theorem anchorSets_walk (w : World) (key : List UInt8) (lim : Int) (A : Option Addr) (l : List (List (List UInt8))) (cp : Nat) (hkey : key.length = 32) (hlim : -9223372036854775808 ≤ lim ∧ lim ≤ 9223372036854775807) (hat : kKeys.At w A l) (hc : l.length ≤ cp) (hm : cp ≤ maxLen) :
    Calls Try.prog 7 #[.agg (aB key), .int .i64 lim, .slice A l.length cp] w fun e w' => e = .returned (.bool true) ∧ Below w.heap.size w w' := by
  have HAT := hid hat
  have HKEY := hid hkey
  have b6 := built_root_key key hkey
  have hq : Try.prog.eqGuardType Try.prog.depth 56 = false := by kernel_rfl
  have BR := hid b6
  have HQ := hid hq
  clear hat hkey b6 hq
  unfold maxLen at hm
  go_enter Try.func7, Try.ntmps7
  go_wp2_with fail
  refine (awake16_ok _).mono ?_
  rintro e w1 ⟨rfl, hb1⟩
  have hk1 := hid (range_below (range_new w (by8 key) 50) hb1)
  have hB1 : Below w.heap.size w w1 := below_step (below_alloc (Below.refl _ _) _) hb1
  have hs1 : w.heap.size + 1 ≤ w1.heap.size := by have := hb1.size; simpa using this
  by_cases hlen : l.length ≤ 100
  case neg =>
    have g : decide (100 < (l.length : Int)) = true := decide_eq_true (by omega)
    go_wp2_with fail
    go_ret
    exact ⟨rfl, hB1⟩
  have g : decide (100 < (l.length : Int)) = false := decide_eq_false (by omega)
  go_wp2_with (first
    | (refine ldb_op rfl 50 _ rfl w.heap.size 0 rfl agg_key key HKEY.out hk1.out ?_))
  by_cases hlr : lim < 0 ∨ 1099511627776 < lim
  · refine (newBad_ok w1 key lim hlr).mono ?_
    rintro e w2 ⟨rfl, hb2⟩
    by_cases h1 : lim < 0
    · have g1 : decide (lim < 0) = true := decide_eq_true h1
      clear hlr h1
      go_wp2_with fail
      go_ret
      exact ⟨rfl, below_step hB1 hb2⟩
    · have g1 : decide (lim < 0) = false := decide_eq_false h1
      have g2 : decide (1099511627776 < lim) = true := decide_eq_true (by omega)
      clear hlr h1
      go_wp2_with fail
      go_ret
      exact ⟨rfl, below_step hB1 hb2⟩
  have hl0 : 0 ≤ lim := by omega
  have hl1 : lim ≤ 1099511627776 := by omega
  have g1 : decide (lim < 0) = false := decide_eq_false (by omega)
  have g2 : decide (1099511627776 < lim) = false := decide_eq_false (by omega)
  clear hlr
  refine (new_ok w1 key lim HKEY.out hl0 hl1).mono ?_
  rintro e w2 ⟨b, rfl, hb2, hbb, hsl⟩
  have hk2 := hid (range_below hk1.out hb2)
  have hB2 := hid (below_step hB1 hb2)
  have HSL := hid hsl
  have HR0 := hid (rootL_one 0 key zero32)
  have HR1 := hid (rootL_length 0 key zero32 HKEY.out rfl)
  have HTN := hid (there_new w2 (rootL 0 zero32 zero32) 56)
  have hbl := hsl.lt
  have hbw : w.heap.size ≤ b := by omega
  clear hsl hb2 hb1 hB1 hk1
  go_wp2_with (first
    | (refine ldb_op rfl 50 _ rfl w.heap.size 0 rfl agg_key key HKEY.out hk2.out ?_)
    | (refine bld_op rfl 56 _ rfl [(1, .agg (aB key))] (by rfl) _ BR.out ?_)
    | (refine st_op rfl 56 _ _ rfl w2.heap.size 0 (rootL 0 key zero32) rfl rfl agg_root HR1.out HR0.out (by have := HTN.out; rwa [rootL_length _ _ _ rfl rfl] at this) ?_))
  obtain ⟨wa, hwa⟩ : ∃ wa, wa = (w2.alloc (Obj.cells Try.zeroCells56 56)).setCells w2.heap.size 0 (rootL 0 key zero32) := ⟨_, rfl⟩
  rw [← hwa]
  have hba : Below w2.heap.size w2 wa := by
    rw [hwa]
    exact below_chg (below_alloc (Below.refl _ _) _) (Chg.setCells (Chg.refl _ (fun x => w2.heap.size ≤ x)) (.inl (Nat.le_refl _)) _ _) (le_alloc (Nat.le_refl _)) (fun k hk => hk)
  have hth : (w2.alloc (Obj.cells Try.zeroCells56 56)).there w2.heap.size 0 65 := by have := HTN.out; rwa [rootL_length _ _ _ rfl rfl] at this
  have HAS : AS w wa b w2.heap.size 0 key zero32 lim := by
    refine ⟨?_, ?_, HSL.out.below hba, below_step hB2.out hba, HKEY.out, rfl, Int.le_refl _, hl0⟩
    · rw [hwa]; exact World.rangeAt_setCells_same _ _ _ _ (by rw [HR1.out]; exact hth)
    · rw [hwa]; exact World.there_setCells hth _ _ _
  obtain ⟨g0, hg0⟩ : ∃ g0, g0 = w2.heap.size := ⟨_, rfl⟩
  rw [← hg0] at HAS ⊢
  have hgb : b ≠ g0 := by omega
  have hgw : w.heap.size ≤ g0 := by rw [hg0]; exact hB2.out.size
  have HA := hid HAS
  clear HAS hwa hba hth hg0 HTN HR0 HR1 HSL hB2 hk2 hbl hbb hs1
  refine rstart (fun w' => AS w w' b g0 0 key zero32 lim) 14 rfl (by kernel_rfl) HA.out.drew (fun _ _ _ _ _ h => h) (fun Q2 HN HQp HHeld => ?_)
  refine rtake 0 (.int .i64 0) rfl (by kernel_rfl) (by kernel_rfl) (by kernel_rfl) HQp HHeld (Or.inl ⟨by rfl, fun w' _ => by go_simp⟩) rfl (by simp only [Act.put, List.setIfInBounds_toArray, List.set_cons_zero, List.set_cons_succ]; rfl) ?_
  refine rtake 1 (.bool false) rfl (by kernel_rfl) (by kernel_rfl) (by kernel_rfl) HQp HHeld (Or.inl ⟨by rfl, fun w' _ => by go_simp⟩) rfl (by simp only [Act.put, List.setIfInBounds_toArray, List.set_cons_zero, List.set_cons_succ]; rfl) ?_
  refine rtake 2 (.bool false) rfl (by kernel_rfl) (by kernel_rfl) (by kernel_rfl) HQp HHeld (Or.inl ⟨by rfl, fun w' _ => by go_simp⟩) rfl (by simp only [Act.put, List.setIfInBounds_toArray, List.set_cons_zero, List.set_cons_succ]; rfl) ?_
  refine rtake 3 (.pointer (some ⟨b, 0, none⟩)) rfl (by kernel_rfl) (by kernel_rfl) (by kernel_rfl) HQp HHeld (Or.inl ⟨by rfl, fun w' _ => by go_simp⟩) rfl (by simp only [Act.put, List.setIfInBounds_toArray, List.set_cons_zero, List.set_cons_succ]; rfl) ?_
  refine rtake 5 (.agg (rootL 0 key zero32).toArray) rfl (by kernel_rfl) (by kernel_rfl) (by kernel_rfl) HQp HHeld (yieldsIf_load_mid (by rfl) 56 (.tmp 9) rfl g0 0 rfl (rootL 0 key zero32) _ (fun w' h => h.1) Try.underlying56 rfl (root_ty _ _ _ HKEY.out rfl)) rfl (by simp only [Act.put, List.setIfInBounds_toArray, List.set_cons_zero, List.set_cons_succ]; rfl) ?_
  refine ralone 4 rfl (by kernel_rfl) (by rfl) (fun K hK => ?_)
  go_wp2_with fail
  refine (slotGet_ok _ b 0 key zero32 lim HKEY.out rfl HHeld.out.2.2.1).mono ?_
  rintro e w3 ⟨rfl, hb3⟩
  dsimp only
  refine hK.out _ _ (HHeld.out.below hb3) (fun HHeld2 => ?_)
  clear HHeld hK K
  have HHeld := HHeld2
  clear HHeld2
  refine rtake 6 (.bool (!true)) rfl (by kernel_rfl) (by kernel_rfl) (by kernel_rfl) HQp HHeld (yields_neq (by rfl) 56 56 (.tmp 43) (.tmp 44) rfl (rootL 0 key zero32).toArray (rootL 0 key zero32).toArray rfl rfl HQ.out true (fun w' => eq_root_same w' 0 key zero32 HKEY.out rfl)) rfl (by simp only [Act.put, List.setIfInBounds_toArray, List.set_cons_zero, List.set_cons_succ]; rfl) ?_
  refine rtake 7 (.bool false) rfl (by kernel_rfl) (by kernel_rfl) (by kernel_rfl) HQp HHeld (Or.inl ⟨by rfl, fun w' _ => by go_simp⟩) rfl (by simp only [Act.put, List.setIfInBounds_toArray, List.set_cons_zero, List.set_cons_succ]; rfl) ?_
  refine rtake 8 (.bool false) rfl (by kernel_rfl) (by kernel_rfl) (by kernel_rfl) HQp HHeld (Or.inl ⟨by rfl, fun w' _ => by go_simp⟩) rfl (by simp only [Act.put, List.setIfInBounds_toArray, List.set_cons_zero, List.set_cons_succ]; rfl) ?_
  refine rtake 9 (.pointer (some ⟨b, 0, none⟩)) rfl (by kernel_rfl) (by kernel_rfl) (by kernel_rfl) HQp HHeld (Or.inl ⟨by rfl, fun w' _ => by go_simp⟩) rfl (by simp only [Act.put, List.setIfInBounds_toArray, List.set_cons_zero, List.set_cons_succ]; rfl) ?_
  refine rtake 11 (.int .i64 lim) rfl (by kernel_rfl) (by kernel_rfl) (by kernel_rfl) HQp HHeld (Or.inl ⟨by rfl, fun w' _ => by go_simp⟩) rfl (by simp only [Act.put, List.setIfInBounds_toArray, List.set_cons_zero, List.set_cons_succ]; rfl) ?_
  refine ralone 10 rfl (by kernel_rfl) (by rfl) (fun K hK => ?_)
  have hcs := HHeld.out.2.2.1.cells HKEY.out rfl
  obtain ⟨-, -, hq1, hq2, -⟩ := hcs
  go_wp2_with fail
  refine (limit_ok _ b lim hq1 hq2).mono ?_
  rintro e w4 ⟨rfl, rfl⟩
  dsimp only
  refine hK.out _ _ HHeld.out (fun HHeld2 => ?_)
  clear HHeld hK K
  have HHeld := HHeld2
  clear HHeld2
  refine rtake 12 (.bool false) rfl (by kernel_rfl) (by kernel_rfl) (by kernel_rfl) HQp HHeld (Or.inl ⟨by rfl, fun w' _ => by go_simp⟩) rfl (by simp only [Act.put, List.setIfInBounds_toArray, List.set_cons_zero, List.set_cons_succ]; rfl) ?_
  refine rtake 13 (.bool false) rfl (by kernel_rfl) (by kernel_rfl) (by kernel_rfl) HQp HHeld (Or.inl ⟨by rfl, fun w' _ => by go_simp⟩) rfl (by simp only [Act.put, List.setIfInBounds_toArray, List.set_cons_zero, List.set_cons_succ]; rfl) ?_
  refine wpAnyH_done (by kernel_rfl) (HN.out _ _ ?_) _
  go_wp2_with fail
  have HA2 := HHeld
  clear HHeld hq1 hq2 hb3 HA
  go_loopw [55] (fun i wr => ∃ n : Nat, i = .int .i64 n ∧ n ≤ l.length ∧ Hid (∃ c k s, AS w wr b g0 c k s lim)) (fun i _ => l.length - (intOf i).toNat)
  case atStart => exact ⟨0, rfl, Nat.zero_le _, hid ⟨_, _, _, HA2.out⟩⟩
  case round =>
    obtain ⟨n, rfl, hn, hh⟩ := hrel
    by_cases hlt : n < l.length
    · obtain ⟨c, k, s, hst⟩ := hh.out
      obtain ⟨bl, off, x0, x1, rfl, hbl, hx0, hx1, hr⟩ := keys_at HAT.out n hlt
      obtain ⟨w5, rfl⟩ : ∃ w5 : World, w5 = wr := ⟨_, rfl⟩
      have hr' := hid (range_chg hr (Chg.of_below hst.2.2.2.1 (fun _ => False)) (fun h => h))
      have HN := there_new w5 (List.replicate 64 (Value.int .u8 0)) 59
      have HL := hid (show (by8 x0 ++ by8 x1).length = 64 by simp [by8_length, hx0, hx1])
      have HO := hid (show ∀ v ∈ by8 x0 ++ by8 x1, v.oneCell' = true by
        intro v hv
        rcases List.mem_append.1 hv with hv | hv
        · exact by8_one _ v hv
        · exact by8_one _ v hv)
      have hz59 := zero_keys
      have HTN : Hid ((w5.alloc (.cells zKeys 59)).there w5.heap.size 0 64) := hid (by simpa [zKeys] using HN)
      have hr2 := hid (World.rangeAt_alloc hr'.out (.cells zKeys 59))
      obtain ⟨wb, hwb⟩ : ∃ wb, wb = (w5.alloc (.cells zKeys 59)).setCells w5.heap.size 0 (by8 x0 ++ by8 x1) := ⟨_, rfl⟩
      have hbb : Below w5.heap.size w5 wb := by
        rw [hwb]
        exact below_chg (below_alloc (Below.refl _ _) _) (Chg.setCells (Chg.refl _ (fun x => w5.heap.size ≤ x)) (.inl (Nat.le_refl _)) _ _) (le_alloc (Nat.le_refl _)) (fun k hk => hk)
      have hrb : wb.rangeAt w5.heap.size 0 (by8 x0 ++ by8 x1) := by rw [hwb]; exact World.rangeAt_setCells_same _ _ _ _ (by rw [HL.out]; exact HTN.out)
      have hrb0 : wb.rangeAt w5.heap.size 0 (by8 x0) := by
        have := range_part (X := []) (Y := by8 x0) (Z := by8 x1) (off := 0) hrb
        simpa using this
      have hrb1 : wb.rangeAt w5.heap.size 32 (by8 x1) := by
        have := range_part (X := by8 x0) (Y := by8 x1) (Z := []) (off := 0) (by simpa using hrb)
        simpa [by8_length, hx0] using this
      have hstb := hst.below hbb
      have hc0 : wb.cell? ⟨g0, 0, none⟩ = some (.int .i64 c) := hstb.1 0 _ rfl
      have HW5 := hid (⟨hst, hstb, hrb0, hrb1, hbb, hx0, hx1⟩ : _ ∧ _ ∧ _ ∧ _ ∧ _ ∧ _ ∧ _)
      have hg5 : g0 < w5.heap.size := by
        obtain ⟨u, hu⟩ := Option.isSome_iff_exists.1 (hst.2.1 0 (by omega)).1
        exact World.block_lt_of_cell? w5 _ hu
      have hw5 : w.heap.size ≤ w5.heap.size := hst.2.2.2.1.size
      have hc0' : 0 ≤ c := hst.2.2.2.2.2.2.1
      have hb5 : b < w5.heap.size := hst.2.2.1.lt
      clear hh hr HN hrb hrb0 hrb1 hst hstb hx0 hx1 HTN hbb
      have HTN : Hid ((w5.alloc (.cells zKeys 59)).there w5.heap.size 0 64) := hid (by
        have HN := there_new w5 (List.replicate 64 (Value.int .u8 0)) 59
        simpa [zKeys] using HN)
      subst hwb
      by_cases hcl : c < lim
      · have q1 : decide (c < lim) = true := decide_eq_true hcl
        go_wp2_with (first
          | (refine ld_op rfl 59 _ rfl bl (off + n * 64) rfl agg_keys (by8 x0 ++ by8 x1) HL.out hr'.out ?_)
          | (refine st_op rfl 59 _ _ rfl w5.heap.size 0 (by8 x0 ++ by8 x1) rfl rfl agg_keys HL.out HO.out HTN.out ?_)
          | (refine ldb_op rfl 50 _ rfl w5.heap.size 0 rfl agg_key x0 HW5.out.2.2.2.2.2.1 HW5.out.2.2.1 ?_)
          | (refine ldb_op rfl 50 _ rfl w5.heap.size 32 rfl agg_key x1 HW5.out.2.2.2.2.2.2 HW5.out.2.2.2.1 ?_))
        obtain ⟨hA, hB, hr0, hr1, hbb, hx0, hx1⟩ := HW5.out
        refine (slotSet_ok _ b c k s x0 x1 lim hB.2.2.2.2.1 hB.2.2.2.2.2.1 hx0 hx1 hB.2.2.1 hc0' hl1 hcl).mono ?_
        rintro e w6 ⟨rfl, hs6, hc6⟩
        have hx := hid (⟨hx0, hx1⟩ : x0.length = 32 ∧ x1.length = 32)
        have hr6 := hid (⟨range_chg hr0 hc6 (by omega), range_chg hr1 hc6 (by omega)⟩ : w6.rangeAt w5.heap.size 0 (by8 x0) ∧ w6.rangeAt w5.heap.size 32 (by8 x1))
        have hb6 : Below w.heap.size w w6 := below_chg hB.2.2.2.1 hc6 hB.2.2.2.1.size (fun k hk => by rw [hk]; exact hbw)
        have HT6 := hid (there_chg hB.2.1 hc6 (by omega))
        have hcs := hs6.cells hx0 hx1
        have hq0 : w6.cell? ⟨g0, 0, none⟩ = some (.int .i64 c) := hc6.cell (hB.1 0 _ rfl) (by simpa using Ne.symm hgb)
        obtain ⟨-, d0, d1, d2, -⟩ := hcs
        have HS6 := hid hs6
        have HB6 := hid hb6
        have HBR := hid (built_root_all (c + 1) x0 x1 hx0 hx1)
        have HO6 := hid (rootL_one (c + 1) x0 x1)
        have HL6 := hid (rootL_length (c + 1) x0 x1 hx0 hx1)
        have hq5 : (c + 1 : Int) < 9223372036854775808 := by omega
        clear hA hB hr0 hr1 hbb hx0 hx1 hs6 hc6 HW5 hb6 hc0
        obtain hq2 | hq2 : decide (c + 1 < lim) = true ∨ decide (c + 1 < lim) = false := by cases decide (c + 1 < lim) <;> simp
        all_goals
          go_wp2_with fail
          refine (can_ok w6 b (c + 1) lim d0 d1 d2).mono ?_
          rintro e w7 ⟨rfl, m7, rfl⟩
          have hw1 := wrap_small (c + 1) (by omega) hq5
          go_wp2_with (first
            | (refine ldb_op rfl 50 _ rfl w5.heap.size 0 rfl agg_key x0 hx.out.1 hr6.out.1 ?_)
            | (refine ldb_op rfl 50 _ rfl w5.heap.size 32 rfl agg_key x1 hx.out.2 hr6.out.2 ?_)
            | (refine bld_op rfl 56 _ rfl [(0, .int .i64 (c + 1)), (1, .agg (aB x0)), (2, .agg (aB x1))] (by rfl) _ HBR.out ?_)
            | (refine st_op rfl 56 _ _ rfl g0 0 (rootL (c + 1) x0 x1) rfl rfl agg_root HL6.out HO6.out HT6.out ?_))
          have HZ : Hid (AS w ((w6.drewN m7).setCells g0 0 (rootL (c + 1) x0 x1)) b g0 (c + 1) x0 x1 lim) := hid (by
            have HS7 : SL (w6.drewN m7) b (c + 1) x0 x1 lim := HS6.out.below (below_drewN (Below.refl _ _) m7)
            have hcg : Chg (w6.drewN m7) ((w6.drewN m7).setCells g0 0 (rootL (c + 1) x0 x1)) (fun x => x = g0) := Chg.setCells (F := fun x => x = g0) (Chg.refl _ _) (.inl rfl) _ _
            refine ⟨World.rangeAt_setCells_same _ _ _ _ (by rw [HL6.out]; exact HT6.out), World.there_setCells (w := w6.drewN m7) HT6.out _ _ _, HS7.chg hcg hgb, below_chg (below_drewN HB6.out m7) hcg HB6.out.size (fun k hk => by rw [hk]; exact hgw), hx.out.1, hx.out.2, by omega, by omega⟩)
          refine rstart (fun w' => AS w w' b g0 (c + 1) x0 x1 lim) 13 rfl (by kernel_rfl) HZ.out.drew (fun _ _ _ _ _ h => h) (fun Q2 HN HQp HHeld => ?_)
          refine rtake 0 (.pointer (some ⟨b, 0, none⟩)) rfl (by kernel_rfl) (by kernel_rfl) (by kernel_rfl) HQp HHeld (Or.inl ⟨by rfl, fun w' _ => by go_simp⟩) rfl (by simp only [Act.put, List.setIfInBounds_toArray, List.set_cons_zero, List.set_cons_succ]; rfl) ?_
          refine rtake 2 (.agg (rootL (c + 1) x0 x1).toArray) rfl (by kernel_rfl) (by kernel_rfl) (by kernel_rfl) HQp HHeld (yieldsIf_load_mid (by rfl) 56 (.tmp 9) rfl g0 0 rfl (rootL (c + 1) x0 x1) _ (fun w' h => h.1) Try.underlying56 rfl (root_ty _ _ _ HZ.out.2.2.2.2.1 HZ.out.2.2.2.2.2.1)) rfl (by simp only [Act.put, List.setIfInBounds_toArray, List.set_cons_zero, List.set_cons_succ]; rfl) ?_
          refine ralone 1 rfl (by kernel_rfl) (by rfl) (fun K hK => ?_)
          go_wp2_with fail
          refine (slotGet_ok _ b (c + 1) x0 x1 lim HZ.out.2.2.2.2.1 HZ.out.2.2.2.2.2.1 HHeld.out.2.2.1).mono ?_
          rintro e w7 ⟨rfl, hb7⟩
          dsimp only
          refine hK.out _ _ (HHeld.out.below hb7) (fun HHeld2 => ?_)
          clear HHeld hK K
          have HHeld := HHeld2
          clear HHeld2
          refine rtake 3 (.bool (!true)) rfl (by kernel_rfl) (by kernel_rfl) (by kernel_rfl) HQp HHeld (yields_neq (by rfl) 56 56 (.tmp 99) (.tmp 100) rfl (rootL (c + 1) x0 x1).toArray (rootL (c + 1) x0 x1).toArray rfl rfl HQ.out true (fun w' => eq_root_same w' (c + 1) x0 x1 HZ.out.2.2.2.2.1 HZ.out.2.2.2.2.2.1)) rfl (by simp only [Act.put, List.setIfInBounds_toArray, List.set_cons_zero, List.set_cons_succ]; rfl) ?_
          refine rtake 4 (.bool false) rfl (by kernel_rfl) (by kernel_rfl) (by kernel_rfl) HQp HHeld (Or.inl ⟨by rfl, fun w' _ => by go_simp⟩) rfl (by simp only [Act.put, List.setIfInBounds_toArray, List.set_cons_zero, List.set_cons_succ]; rfl) ?_
          refine rtake 5 (.pointer (some ⟨b, 0, none⟩)) rfl (by kernel_rfl) (by kernel_rfl) (by kernel_rfl) HQp HHeld (Or.inl ⟨by rfl, fun w' _ => by go_simp⟩) rfl (by simp only [Act.put, List.setIfInBounds_toArray, List.set_cons_zero, List.set_cons_succ]; rfl) ?_
          refine rtake 7 (.pointer (some ⟨g0, 0, none⟩)) rfl (by kernel_rfl) (by kernel_rfl) (by kernel_rfl) HQp HHeld (Or.inl ⟨by rfl, fun w' _ => by go_simp⟩) rfl (by simp only [Act.put, List.setIfInBounds_toArray, List.set_cons_zero, List.set_cons_succ]; rfl) ?_
          refine rtake 8 (.int .i64 (c + 1)) rfl (by kernel_rfl) (by kernel_rfl) (by kernel_rfl) HQp HHeld (Or.inl ⟨by rfl, fun w' hw' => by
              have hz' : w'.cell? ⟨g0, 0, none⟩ = some (.int .i64 (c + 1)) := hw'.1 0 _ rfl
              clear hw'
              go_simp⟩) rfl (by simp only [Act.put, List.setIfInBounds_toArray, List.set_cons_zero, List.set_cons_succ]; rfl) ?_
          refine rtake 9 (.int .i64 lim) rfl (by kernel_rfl) (by kernel_rfl) (by kernel_rfl) HQp HHeld (Or.inl ⟨by rfl, fun w' _ => by go_simp⟩) rfl (by simp only [Act.put, List.setIfInBounds_toArray, List.set_cons_zero, List.set_cons_succ]; rfl) ?_
          refine rtake 10 (.bool (decide ((c + 1) < lim))) rfl (by kernel_rfl) (by kernel_rfl) (by kernel_rfl) HQp HHeld (Or.inl ⟨by rfl, fun w' _ => by go_simp⟩) rfl (by simp only [Act.put, List.setIfInBounds_toArray, List.set_cons_zero, List.set_cons_succ]; rfl) ?_
          refine ralone 6 rfl (by kernel_rfl) (by rfl) (fun K hK => ?_)
          have hcs := HHeld.out.2.2.1.cells HZ.out.2.2.2.2.1 HZ.out.2.2.2.2.2.1
          obtain ⟨-, hq0, hq1, hq2, -⟩ := hcs
          go_wp2_with fail
          refine (can_ok _ b (c + 1) lim hq0 hq1 hq2).mono ?_
          rintro e w8 ⟨rfl, m8, rfl⟩
          dsimp only
          refine hK.out _ _ (HHeld.out.below (below_drewN (Below.refl _ _) m8)) (fun HHeld2 => ?_)
          clear HHeld hK K
          have HHeld := HHeld2
          clear HHeld2
          refine rtake 11 (.bool false) rfl (by kernel_rfl) (by kernel_rfl) (by kernel_rfl) HQp HHeld (Or.inl ⟨by rfl, fun w' _ => by go_simp⟩) rfl (by simp only [Act.put, List.setIfInBounds_toArray, List.set_cons_zero, List.set_cons_succ]; rfl) ?_
          refine rtake 12 (.bool false) rfl (by kernel_rfl) (by kernel_rfl) (by kernel_rfl) HQp HHeld (Or.inl ⟨by rfl, fun w' _ => by go_simp⟩) rfl (by simp only [Act.put, List.setIfInBounds_toArray, List.set_cons_zero, List.set_cons_succ]; rfl) ?_
          refine wpAnyH_done (by kernel_rfl) (HN.out _ _ ?_) _
          go_wp2_with fail
          go_roundw
          case rel => exact ⟨n + 1, by go_num, by omega, hid ⟨_, _, _, HHeld.out⟩⟩
          case measure => simp [intOf]; omega
      · have q1 : decide (c < lim) = false := decide_eq_false hcl
        go_wp2_with (first
          | (refine ld_op rfl 59 _ rfl bl (off + n * 64) rfl agg_keys (by8 x0 ++ by8 x1) HL.out hr'.out ?_)
          | (refine st_op rfl 59 _ _ rfl w5.heap.size 0 (by8 x0 ++ by8 x1) rfl rfl agg_keys HL.out HO.out HTN.out ?_)
          | (refine ldb_op rfl 50 _ rfl w5.heap.size 0 rfl agg_key x0 HW5.out.2.2.2.2.2.1 HW5.out.2.2.1 ?_)
          | (refine ldb_op rfl 50 _ rfl w5.heap.size 32 rfl agg_key x1 HW5.out.2.2.2.2.2.2 HW5.out.2.2.2.1 ?_))
        obtain ⟨hA, hB, hr0, hr1, hbb, hx0, hx1⟩ := HW5.out
        refine (slotFull_ok _ b c k s x0 x1 lim hB.2.2.2.2.1 hB.2.2.2.2.2.1 hB.2.2.1 (by omega)).mono ?_
        rintro e w6 ⟨rfl, hb6⟩
        have HZ6 := hB.below hb6
        obtain ⟨-, d0, d1, d2, -⟩ := HZ6.2.2.1.cells HZ6.2.2.2.2.1 HZ6.2.2.2.2.2.1
        have HA6 := hid HZ6
        clear hA hB hr0 hr1 hbb hx0 hx1 hb6 HZ6 HW5 hc0
        go_wp2_with fail
        refine (can_ok w6 b c lim d0 d1 d2).mono ?_
        rintro e w7 ⟨rfl, m7, rfl⟩
        go_wp2_with fail
        have HZ : Hid (AS w (w6.drewN m7) b g0 c k s lim) := hid (HA6.out.below (below_drewN (Below.refl _ _) m7))
        refine rstart (fun w' => AS w w' b g0 c k s lim) 13 rfl (by kernel_rfl) HZ.out.drew (fun _ _ _ _ _ h => h) (fun Q2 HN HQp HHeld => ?_)
        refine rtake 0 (.pointer (some ⟨b, 0, none⟩)) rfl (by kernel_rfl) (by kernel_rfl) (by kernel_rfl) HQp HHeld (Or.inl ⟨by rfl, fun w' _ => by go_simp⟩) rfl (by simp only [Act.put, List.setIfInBounds_toArray, List.set_cons_zero, List.set_cons_succ]; rfl) ?_
        refine rtake 2 (.agg (rootL c k s).toArray) rfl (by kernel_rfl) (by kernel_rfl) (by kernel_rfl) HQp HHeld (yieldsIf_load_mid (by rfl) 56 (.tmp 9) rfl g0 0 rfl (rootL c k s) _ (fun w' h => h.1) Try.underlying56 rfl (root_ty _ _ _ HZ.out.2.2.2.2.1 HZ.out.2.2.2.2.2.1)) rfl (by simp only [Act.put, List.setIfInBounds_toArray, List.set_cons_zero, List.set_cons_succ]; rfl) ?_
        refine ralone 1 rfl (by kernel_rfl) (by rfl) (fun K hK => ?_)
        go_wp2_with fail
        refine (slotGet_ok _ b c k s lim HZ.out.2.2.2.2.1 HZ.out.2.2.2.2.2.1 HHeld.out.2.2.1).mono ?_
        rintro e w7 ⟨rfl, hb7⟩
        dsimp only
        refine hK.out _ _ (HHeld.out.below hb7) (fun HHeld2 => ?_)
        clear HHeld hK K
        have HHeld := HHeld2
        clear HHeld2
        refine rtake 3 (.bool (!true)) rfl (by kernel_rfl) (by kernel_rfl) (by kernel_rfl) HQp HHeld (yields_neq (by rfl) 56 56 (.tmp 99) (.tmp 100) rfl (rootL c k s).toArray (rootL c k s).toArray rfl rfl HQ.out true (fun w' => eq_root_same w' c k s HZ.out.2.2.2.2.1 HZ.out.2.2.2.2.2.1)) rfl (by simp only [Act.put, List.setIfInBounds_toArray, List.set_cons_zero, List.set_cons_succ]; rfl) ?_
        refine rtake 4 (.bool false) rfl (by kernel_rfl) (by kernel_rfl) (by kernel_rfl) HQp HHeld (Or.inl ⟨by rfl, fun w' _ => by go_simp⟩) rfl (by simp only [Act.put, List.setIfInBounds_toArray, List.set_cons_zero, List.set_cons_succ]; rfl) ?_
        refine rtake 5 (.pointer (some ⟨b, 0, none⟩)) rfl (by kernel_rfl) (by kernel_rfl) (by kernel_rfl) HQp HHeld (Or.inl ⟨by rfl, fun w' _ => by go_simp⟩) rfl (by simp only [Act.put, List.setIfInBounds_toArray, List.set_cons_zero, List.set_cons_succ]; rfl) ?_
        refine rtake 7 (.pointer (some ⟨g0, 0, none⟩)) rfl (by kernel_rfl) (by kernel_rfl) (by kernel_rfl) HQp HHeld (Or.inl ⟨by rfl, fun w' _ => by go_simp⟩) rfl (by simp only [Act.put, List.setIfInBounds_toArray, List.set_cons_zero, List.set_cons_succ]; rfl) ?_
        refine rtake 8 (.int .i64 c) rfl (by kernel_rfl) (by kernel_rfl) (by kernel_rfl) HQp HHeld (Or.inl ⟨by rfl, fun w' hw' => by
            have hz' : w'.cell? ⟨g0, 0, none⟩ = some (.int .i64 c) := hw'.1 0 _ rfl
            clear hw'
            go_simp⟩) rfl (by simp only [Act.put, List.setIfInBounds_toArray, List.set_cons_zero, List.set_cons_succ]; rfl) ?_
        refine rtake 9 (.int .i64 lim) rfl (by kernel_rfl) (by kernel_rfl) (by kernel_rfl) HQp HHeld (Or.inl ⟨by rfl, fun w' _ => by go_simp⟩) rfl (by simp only [Act.put, List.setIfInBounds_toArray, List.set_cons_zero, List.set_cons_succ]; rfl) ?_
        refine rtake 10 (.bool (decide (c < lim))) rfl (by kernel_rfl) (by kernel_rfl) (by kernel_rfl) HQp HHeld (Or.inl ⟨by rfl, fun w' _ => by go_simp⟩) rfl (by simp only [Act.put, List.setIfInBounds_toArray, List.set_cons_zero, List.set_cons_succ]; rfl) ?_
        refine ralone 6 rfl (by kernel_rfl) (by rfl) (fun K hK => ?_)
        have hcs := HHeld.out.2.2.1.cells HZ.out.2.2.2.2.1 HZ.out.2.2.2.2.2.1
        obtain ⟨-, hq0, hq1, hq2, -⟩ := hcs
        go_wp2_with fail
        refine (can_ok _ b c lim hq0 hq1 hq2).mono ?_
        rintro e w8 ⟨rfl, m8, rfl⟩
        dsimp only
        refine hK.out _ _ (HHeld.out.below (below_drewN (Below.refl _ _) m8)) (fun HHeld2 => ?_)
        clear HHeld hK K
        have HHeld := HHeld2
        clear HHeld2
        refine rtake 11 (.bool false) rfl (by kernel_rfl) (by kernel_rfl) (by kernel_rfl) HQp HHeld (Or.inl ⟨by rfl, fun w' _ => by go_simp⟩) rfl (by simp only [Act.put, List.setIfInBounds_toArray, List.set_cons_zero, List.set_cons_succ]; rfl) ?_
        refine rtake 12 (.bool false) rfl (by kernel_rfl) (by kernel_rfl) (by kernel_rfl) HQp HHeld (Or.inl ⟨by rfl, fun w' _ => by go_simp⟩) rfl (by simp only [Act.put, List.setIfInBounds_toArray, List.set_cons_zero, List.set_cons_succ]; rfl) ?_
        refine wpAnyH_done (by kernel_rfl) (HN.out _ _ ?_) _
        go_wp2_with fail
        go_roundw
        case rel => exact ⟨n + 1, by go_num, by omega, hid ⟨_, _, _, HHeld.out⟩⟩
        case measure => simp [intOf]; omega
    · have e : n = l.length := by omega
      subst e
      go_wp2_with fail
      go_ret
      obtain ⟨c, k, s, hst⟩ := hh.out
      exact ⟨rfl, hst.2.2.2.1⟩
theorem agg_of_cells {v : Value} {l : List UInt8} (h : v.cells.toList = by8 l) (hl : l.length = 32) : v = .agg (aB l) := by
  have hlen : v.cells.toList.length = 32 := by rw [h, by8_length, hl]
  cases v
  case agg xs =>
    have : xs.toList = by8 l := h
    rw [aB, ← this]
  all_goals simp [Value.cells] at hlen
theorem anchorSets_ok (v : Value) (key : List UInt8) (lim : Int) (A : Option Addr) (l : List (List (List UInt8))) (cp : Nat) (w : World) (hK : kKey.K w key v.cells.toList) (hlim : -9223372036854775808 ≤ lim ∧ lim ≤ 9223372036854775807) (hat : kKeys.At w A l) (hc : l.length ≤ cp) (hm : cp ≤ maxLen) :
    Calls Try.prog 7 #[v, .int .i64 lim, .slice A l.length cp] w fun e w' => e = .returned (.bool true) ∧ Below w.heap.size w w' := by
  obtain ⟨h1, h2⟩ := arr_bytes hK
  rw [agg_of_cells h2 h1]
  exact anchorSets_walk w key lim A l cp h1 hlim hat hc hm
end Go.Proofs.Ytdahdlidpplllaa
