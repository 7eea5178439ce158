/- The package anchor: a slot is set. -/
import Derived.Test.YtdahdlidpplllaaAnchor
import Derived.Deep.RegionHeld3
set_option linter.unusedVariables false
set_option linter.unusedSimpArgs false
namespace Go.Proofs.Ytdahdlidpplllaa
open Go.RowKit
set_option maxRecDepth 100000 in
set_option maxHeartbeats 1000000 in
theorem slotSet_ok (w : World) (b : Nat) (c : Int) (k s k2 s2 : List UInt8) (lim : Int) (hk : k.length = 32) (hs : s.length = 32) (hk2 : k2.length = 32) (hs2 : s2.length = 32) (h : SL w b c k s lim) (hc : 0 ≤ c) (hm : lim ≤ 1099511627776) (hcl : c < lim) :
    Calls Try.prog 34 #[.pointer (some ⟨b, 0, none⟩), .agg (aB k2), .agg (aB s2)] w fun e w' => e = .returned (.int .i64 0) ∧ SL w' b (c + 1) k2 s2 lim ∧ Chg w w' (fun x => x = b) := by
  have g : decide (c < lim) = true := decide_eq_true hcl
  obtain ⟨hr, h0, h1, h2, h3⟩ := h.cells hk hs
  have hr2 : w.there b 0 65 := fun j hj => h.2 j (by omega)
  have H := hid h
  have HR := hid hr2
  have HK := hid hk2
  have HS := hid hs2
  have HL := hid (⟨hk, hs⟩ : k.length = 32 ∧ s.length = 32)
  clear h hr hr2 hk2 hs2 hk hs
  have hlt := H.out.lt
  go_enter Try.func34, Try.ntmps34
  go_wp2_with fail
  refine (made_ok _ b (by go_simp)).mono ?_
  rintro e w1 ⟨rfl, rfl⟩
  go_wp2_with fail
  refine (can_ok _ b c lim (by go_simp) (by go_simp) (by go_simp)).mono ?_
  rintro e w1 ⟨rfl, m, rfl⟩
  go_wp2_with fail
  obtain ⟨wr, hwr⟩ : ∃ wr, wr = ((w.alloc (Obj.cells (aB k2) 50)).alloc (Obj.cells (aB s2) 50)).drewN m := ⟨_, rfl⟩
  rw [← hwr]
  have r1 : wr.rangeAt w.heap.size 0 (by8 k2) := by rw [hwr]; exact World.rangeAt_alloc (range_new w (by8 k2) 50) _
  have r2 : wr.rangeAt (w.heap.size + 1) 0 (by8 s2) := by
    have := range_new (w.alloc (Obj.cells (aB k2) 50)) (by8 s2) 50
    rw [hwr]
    have e : (w.alloc (Obj.cells (aB k2) 50)).heap.size = w.heap.size + 1 := by simp
    rw [e] at this
    exact this
  have r3 : wr.there b 0 65 := by rw [hwr]; exact World.there_alloc (World.there_alloc HR.out _) _
  have r4 : wr.cell? ⟨b, 0, none⟩ = some (.int .i64 c) := by rw [hwr]; go_simp
  have HK2 := hid (⟨r1, r2, r3⟩ : wr.rangeAt w.heap.size 0 (by8 k2) ∧ wr.rangeAt (w.heap.size + 1) 0 (by8 s2) ∧ wr.there b 0 65)
  have hl3 := hid (rootL_length (c + 1) k2 s2 HK.out HS.out)
  have HW := hid hwr
  have e0 : (Value.pointer (some ⟨b, 0, none⟩)) = .pointer (some ⟨b, 0, none⟩) := rfl
  clear hwr r1 r2 r3
  refine wp_region_held_drew (S := fun w' => w'.rangeAt w.heap.size 0 (by8 k2) ∧ w'.rangeAt (w.heap.size + 1) 0 (by8 s2)) (by kernel_rfl) ⟨HK2.out.1, HK2.out.2.1⟩ (fun hHeld => ?_)
  have HHeld := hid hHeld
  clear hHeld
  refine wpAnyH_take (i := 0) (v := .pointer (some ⟨b, 0, none⟩)) rfl (by kernel_rfl) (by kernel_rfl) (by kernel_rfl) (fun _ _ _ h => h) (Or.inl ⟨by rfl, fun w' _ => by go_simp⟩) HHeld.out ?_
  simp only [Act.put, List.setIfInBounds_toArray, List.set_cons_zero, List.set_cons_succ]
  refine wpAnyH_take (i := 1) (v := .pointer (some ⟨b, 0, none⟩)) rfl (by kernel_rfl) (by kernel_rfl) (by kernel_rfl) (fun _ _ _ h => h) (Or.inl ⟨by rfl, fun w' _ => by go_simp⟩) HHeld.out ?_
  simp only [Act.put, List.setIfInBounds_toArray, List.set_cons_zero, List.set_cons_succ]
  refine wpAnyH_take (i := 2) (v := .pointer (some ⟨b, 0, none⟩)) rfl (by kernel_rfl) (by kernel_rfl) (by kernel_rfl) (fun _ _ _ h => h) (Or.inl ⟨by rfl, fun w' _ => by go_simp⟩) HHeld.out ?_
  simp only [Act.put, List.setIfInBounds_toArray, List.set_cons_zero, List.set_cons_succ]
  refine wpAnyH_take (i := 3) (v := .pointer (some ⟨b, 0, none⟩)) rfl (by kernel_rfl) (by kernel_rfl) (by kernel_rfl) (fun _ _ _ h => h) (Or.inl ⟨by rfl, fun w' _ => by go_simp⟩) HHeld.out ?_
  simp only [Act.put, List.setIfInBounds_toArray, List.set_cons_zero, List.set_cons_succ]
  refine wpAnyH_take (i := 4) (v := .pointer (some ⟨b, 0, none⟩)) rfl (by kernel_rfl) (by kernel_rfl) (by kernel_rfl) (fun _ _ _ h => h) (Or.inl ⟨by rfl, fun w' _ => by go_simp⟩) HHeld.out ?_
  simp only [Act.put, List.setIfInBounds_toArray, List.set_cons_zero, List.set_cons_succ]
  refine wpAnyH_take (i := 7) (v := .agg (aB k2)) rfl (by kernel_rfl) (by kernel_rfl) (by kernel_rfl) (fun _ _ _ h => h)
    (yieldsIf_load_mid (by rfl) 50 (.tmp 4) rfl w.heap.size 0 rfl (by8 k2) _ (fun w' h => h.1) Try.underlying50 rfl (by rw [by8_length, HK.out]; kernel_rfl)) HHeld.out ?_
  simp only [Act.put, List.setIfInBounds_toArray, List.set_cons_zero, List.set_cons_succ]
  refine wpAnyH_take (i := 8) (v := .agg (aB s2)) rfl (by kernel_rfl) (by kernel_rfl) (by kernel_rfl) (fun _ _ _ h => h)
    (yieldsIf_load_mid (by rfl) 50 (.tmp 5) rfl (w.heap.size + 1) 0 rfl (by8 s2) _ (fun w' h => h.2) Try.underlying50 rfl (by rw [by8_length, HS.out]; kernel_rfl)) HHeld.out ?_
  simp only [Act.put, List.setIfInBounds_toArray, List.set_cons_zero, List.set_cons_succ]
  refine wpAnyH_ready (rs := [5]) (by kernel_rfl) (by simp) (AllReadyH.cons rfl (fun K hK => ?_) AllReadyH.nil)
  go_simp
  refine hK.out _ _ HHeld.out (fun _ => ?_)
  clear hK K
  have q : (c + 1 : Int) < 9223372036854775808 := by omega
  refine wpAnyH_take (i := 6) (v := .int .i64 (c + 1)) rfl (by kernel_rfl) (by kernel_rfl) (by kernel_rfl) (fun _ _ _ h => h) (Or.inl ⟨by rfl, fun w' _ => by go_simp; exact wrap_small _ (by omega) q⟩) HHeld.out ?_
  simp only [Act.put, List.setIfInBounds_toArray, List.set_cons_zero, List.set_cons_succ]
  refine wpAnyH_take (i := 9) (v := .agg (rootL (c + 1) k2 s2).toArray) rfl (by kernel_rfl) (by kernel_rfl) (by kernel_rfl) (fun _ _ _ h => h)
    (yields_build (by rfl) 56 _ rfl [(0, .int .i64 (c + 1)), (1, .agg (aB k2)), (2, .agg (aB s2))] (by rfl) _ (built_root_all (c + 1) k2 s2 HK.out HS.out)) HHeld.out ?_
  simp only [Act.put, List.setIfInBounds_toArray, List.set_cons_zero, List.set_cons_succ]
  refine wpAnyH_take (i := 10) (v := .pointer (some ⟨b, 0, none⟩)) rfl (by kernel_rfl) (by kernel_rfl) (by kernel_rfl) (fun _ _ _ h => h) (Or.inl ⟨by rfl, fun w' _ => by go_simp⟩) HHeld.out ?_
  simp only [Act.put, List.setIfInBounds_toArray, List.set_cons_zero, List.set_cons_succ]
  refine wpAnyH_take (i := 11) (v := .pointer (some ⟨b, 0, none⟩)) rfl (by kernel_rfl) (by kernel_rfl) (by kernel_rfl) (fun _ _ _ h => h) (Or.inl ⟨by rfl, fun w' _ => by go_simp⟩) HHeld.out ?_
  simp only [Act.put, List.setIfInBounds_toArray, List.set_cons_zero, List.set_cons_succ]
  refine wpAnyH_ready (rs := [12]) (by kernel_rfl) (by simp) (AllReadyH.cons rfl (fun K hK => ?_) AllReadyH.nil)
  rw [if_pos (by rfl)]
  refine wp_store_mid 56 (.tmp 26) (.tmp 24) rfl b 0 (rootL (c + 1) k2 s2).toArray rfl rfl (by simpa [hl3.out] using HK2.out.2.2) (by simp only [List.size_toArray, hl3.out]; kernel_rfl) (all_oneCell_toArray (rootL_one _ _ _)) ?_
  refine hK.out _ _ ⟨World.rangeAt_setCells_apart HHeld.out.1 _ _ _ (.inl (by omega)), World.rangeAt_setCells_apart HHeld.out.2 _ _ _ (.inl (by omega))⟩ (fun _ => ?_)
  clear hK K
  refine wpAnyH_done (by kernel_rfl) ?_ _
  simp only [Act.put, List.setIfInBounds_toArray, List.set_cons_zero, List.set_cons_succ]
  go_wp2
  go_ret
  have ht : wr.drew.there b 0 65 := (World.there_drew _ _ _ _).2 HK2.out.2.2
  have HS' : SL wr.drew b c k s lim := by
    have h1 : Below w.heap.size w wr.drew := by rw [HW.out]; exact below_drewN (below_drewN (below_alloc (below_alloc (Below.refl _ _) _) _) m) 1
    exact H.out.below h1
  refine ⟨rfl, ⟨?_, ?_⟩, ?_⟩
  · intro j v hv
    by_cases hj : j < 65
    · rw [slotL, List.getElem?_append_left (by rw [hl3.out]; exact hj)] at hv
      refine World.rangeAt_setCells_same _ _ _ _ ?_ j v hv
      rw [hl3.out]; exact ht
    · have hv' : (slotL c k s lim)[j]? = some v := by
        rw [slotL, List.getElem?_append_right (by rw [hl3.out]; omega), hl3.out] at hv
        rw [slotL, List.getElem?_append_right (by rw [rootL_length _ _ _ HL.out.1 HL.out.2]; omega), rootL_length _ _ _ HL.out.1 HL.out.2]; exact hv
      have hc' := HS'.1 j v hv'
      rw [World.cell?_setCells_out b _ 0 _ ⟨b, 0 + j, none⟩ (fun _ _ => .inr (by show 0 + (rootL (c + 1) k2 s2).length ≤ 0 + j; rw [hl3.out]; omega))]
      exact hc'
  · exact World.there_setCells HS'.2 _ _ _
  · have h1 : Chg w wr.drew (fun x => x = b) := by
      rw [HW.out]; exact (Chg.of_below (below_drewN (below_drewN (below_alloc (below_alloc (Below.refl _ _) _) _) m) 1) _)
    simpa using h1.setCells (.inl rfl) _ _
end Go.Proofs.Ytdahdlidpplllaa
