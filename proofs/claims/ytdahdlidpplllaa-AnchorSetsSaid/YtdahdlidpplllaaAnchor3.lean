/- The package anchor: a slot that is full; what it has; the chapter's example. -/
import Derived.Test.YtdahdlidpplllaaAnchor2
set_option linter.unusedVariables false
set_option linter.unusedSimpArgs false
namespace Go.Proofs.Ytdahdlidpplllaa
open Go.RowKit
theorem slotFull_ok (w : World) (b : Nat) (c : Int) (k s k2 s2 : List UInt8) (lim : Int) (hk : k.length = 32) (hs : s.length = 32) (h : SL w b c k s lim) (hcl : ¬ c < lim) :
    Calls Try.prog 34 #[.pointer (some ⟨b, 0, none⟩), .agg (aB k2), .agg (aB s2)] w fun e w' => e = .returned (.int .i64 35) ∧ Below w.heap.size w w' := by
  have g : decide (c < lim) = false := decide_eq_false hcl
  obtain ⟨hr, h0, h1, h2, h3⟩ := h.cells hk hs
  have H := hid h
  clear h hr hk hs
  have hlt := H.out.lt
  go_enter Try.func34, Try.ntmps34
  go_wp2_with fail
  refine (made_ok _ b (by go_simp)).mono ?_
  rintro e w1 ⟨rfl, rfl⟩
  go_wp2_with fail
  refine (can_ok _ b c lim (by go_simp) (by go_simp) (by go_simp)).mono ?_
  rintro e w1 ⟨rfl, m, rfl⟩
  go_wp2_with fail
  go_ret
  exact ⟨rfl, below_drewN (below_alloc (below_alloc (Below.refl _ _) _) _) m⟩
theorem zero_root : Try.zeroCells56 = (rootL 0 zero32 zero32).toArray := by kernel_rfl
set_option maxRecDepth 100000 in
theorem slotGet_ok (w : World) (b : Nat) (c : Int) (k s : List UInt8) (lim : Int) (hk : k.length = 32) (hs : s.length = 32) (h : SL w b c k s lim) :
    Calls Try.prog 32 #[.pointer (some ⟨b, 0, none⟩)] w fun e w' => e = .returned (.agg (rootL c k s).toArray) ∧ Below w.heap.size w w' := by
  have hl := hid (rootL_length c k s hk hs)
  obtain ⟨hr, -, -, h2, -⟩ := h.cells hk hs
  have H := hid h
  have HR := hid hr
  clear h hr hk hs
  have hlt := H.out.lt
  go_enter Try.func32, Try.ntmps32
  go_wp2_with fail
  refine (made_ok _ b (by go_simp)).mono ?_
  rintro e w1 ⟨rfl, rfl⟩
  have hz := there_new w (rootL 0 zero32 zero32) 56
  rw [rootL_length _ _ _ rfl rfl] at hz
  have HZ := hid hz
  have HO := hid (rootL_one c k s)
  clear hz
  have HR2 := hid (World.rangeAt_alloc HR.out (.cells Try.zeroCells56 56))
  go_wp2_with (first
    | (refine ld_op rfl 56 _ rfl b 0 rfl agg_root (rootL c k s) hl.out HR2.out ?_)
    | (refine st_op rfl 56 _ _ rfl w.heap.size 0 (rootL c k s) rfl rfl agg_root hl.out HO.out HZ.out ?_))
  refine bodyPost_ret (v := .agg (rootL c k s).toArray) (results_agg rfl _ _ w.heap.size 0 rfl agg_root _ hl.out ?_) rfl ⟨rfl, ?_⟩
  · exact World.rangeAt_setCells_same _ _ _ _ (by rw [hl.out]; exact HZ.out)
  · exact below_chg (below_alloc (Below.refl _ _) _) (Chg.setCells (Chg.refl _ (fun x => w.heap.size ≤ x)) (.inl (Nat.le_refl _)) _ _) (le_alloc (Nat.le_refl _)) (fun k hk => hk)
set_option maxRecDepth 100000 in
theorem awake16_ok (w : World) : Calls Try.prog 30 #[] w fun e w' => e = .returned (.bool true) ∧ Below w.heap.size w w' := by
  have b1 : Try.prog.built 50 [(0, .int .u8 1)] = some (aB (1 :: List.replicate 31 0)) := by kernel_rfl
  have b2 : Try.prog.built 50 [(0, .int .u8 2)] = some (aB (2 :: List.replicate 31 0)) := by kernel_rfl
  have b3 : Try.prog.built 50 [(0, .int .u8 3)] = some (aB (3 :: List.replicate 31 0)) := by kernel_rfl
  have b4 : Try.prog.built 50 [(0, .int .u8 4)] = some (aB (4 :: List.replicate 31 0)) := by kernel_rfl
  have b5 : Try.prog.built 50 [(0, .int .u8 5)] = some (aB (5 :: List.replicate 31 0)) := by kernel_rfl
  have b6 := built_root_all 1 (2 :: List.replicate 31 0) (3 :: List.replicate 31 0) rfl rfl
  have hq : Try.prog.eqGuardType Try.prog.depth 56 = false := by kernel_rfl
  have B := hid (⟨b1, b2, b3, b4, b5, b6, hq⟩ : _ ∧ _ ∧ _ ∧ _ ∧ _ ∧ _ ∧ _)
  clear b1 b2 b3 b4 b5 b6 hq
  go_enter Try.func30, Try.ntmps30
  go_wp2_with (first | (refine bld_op rfl 50 _ rfl [(0, .int .u8 1)] (by rfl) _ B.out.1 ?_))
  refine (new_ok w (1 :: List.replicate 31 0) 1 rfl (by omega) (by omega)).mono ?_
  rintro e w1 ⟨b, rfl, hb1, hb, hs1⟩
  go_wp2_with (first | (refine bld_op rfl 50 _ rfl [(0, .int .u8 2)] (by rfl) _ B.out.2.1 ?_) | (refine bld_op rfl 50 _ rfl [(0, .int .u8 3)] (by rfl) _ B.out.2.2.1 ?_))
  refine (slotSet_ok w1 b 0 _ _ (2 :: List.replicate 31 0) (3 :: List.replicate 31 0) 1 rfl rfl rfl rfl hs1 (by omega) (by omega) (by omega)).mono ?_
  rintro e w2 ⟨rfl, hs2, hc2⟩
  go_wp2_with (first | (refine bld_op rfl 50 _ rfl [(0, .int .u8 4)] (by rfl) _ B.out.2.2.2.1 ?_) | (refine bld_op rfl 50 _ rfl [(0, .int .u8 5)] (by rfl) _ B.out.2.2.2.2.1 ?_))
  refine (slotFull_ok w2 b (0 + 1) _ _ (4 :: List.replicate 31 0) (5 :: List.replicate 31 0) 1 rfl rfl hs2 (by omega)).mono ?_
  rintro e w3 ⟨rfl, hb3⟩
  go_wp2_with fail
  refine (slotGet_ok w3 b (0 + 1) (2 :: List.replicate 31 0) (3 :: List.replicate 31 0) 1 rfl rfl (hs2.below hb3)).mono ?_
  rintro e w4 ⟨rfl, hb4⟩
  go_wp2_with (first 
    | (refine wanted_plain rfl (bld_op rfl 50 _ rfl [(0, .int .u8 2)] (by rfl) _ B.out.2.1 ?_)) 
    | (refine wanted_plain rfl (bld_op rfl 50 _ rfl [(0, .int .u8 3)] (by rfl) _ B.out.2.2.1 ?_))
    | (refine wanted_plain rfl (bld_op rfl 56 _ rfl _ (by rfl) _ B.out.2.2.2.2.2.1 ?_))
    | (refine wanted_plain rfl (eql_op rfl 56 _ _ _ rfl _ _ rfl rfl B.out.2.2.2.2.2.2 true (by rw [eq_root _ _ _ _ _ _ _ rfl rfl rfl rfl]; simp) ?_)))
  go_ret
  refine ⟨rfl, ?_⟩
  have h2 : Below w.heap.size w w2 := below_chg hb1 hc2 hb1.size (fun k hk => by rw [hk]; exact hb)
  exact below_step (below_step h2 hb3) hb4
end Go.Proofs.Ytdahdlidpplllaa
