/- slices.Values over ints: an iterator; its closure's walk. -/
import Derived.Test.YtnjmlihmnkbgdaaPj
import Derived.Test.YtnjmlihmnkbgdaaPr
import Derived.Test.YtnjmlihmnkbgdaaTy
set_option linter.unusedVariables false
set_option linter.unusedSimpArgs false
namespace Go.Proofs.Ytnjmlihmnkbgdaa
open Go.RowKit
def enc1 (x : Int) : Array Value := #[.int .i64 x]
def slices_Values___int_int (Fu : Nat) (a0 : List Int) : Option (List Int) := some a0
set_option maxRecDepth 100000 in
set_option maxHeartbeats 4000000 in
theorem values_iter (a0 : List Int) (Aa0 : Option Addr) (ca0 : Nat) {S : Snap} (hsa0 : slS tyI S Aa0 ca0 a0) {g : Nat} (hg : ∀ w, SnapOK S w → w.cell? ⟨g, 0, none⟩ = some (.slice Aa0 a0.length ca0)) :
    IterV Try.prog enc1 (.func (.func 32) #[] #[.pointer (some ⟨g, 0, none⟩)]) a0 S := by
  refine ⟨_, _, rfl, enters_c Try.func32 rfl rfl, fun l J Jx W hJS hJ hJx hY h0 => ?_⟩
  show Calls _ _ #[.func (.yield l) #[] #[], .pointer (some ⟨g, 0, none⟩)] W _
  refine c_enterM Try.func32 rfl 16 rfl (by simp) _ (Mem.startS (hJS _ _ h0)) _ rfl (fun a h => ?_)
  refine c_rs ?_
  refine s_x h rfl rfl (by decide) (x_ld h.k rfl Try.underlying23 rfl rfl (hg _ (h.m.snOK (i := 0) rfl))) (fun a h => ?_)
  refine s_x h rfl rfl (by decide) (x_len h.k rfl Try.underlying23 rfl) (fun a h => ?_)
  refine sMV h (fun a h => ?_)
  refine l_end ?_
  refine wp_block ?_
  refine c_loop (fun m a w => ∃ (pre rest : List Int) (i : Nat), i + m = a0.length ∧ a0 = pre ++ rest ∧ a0.drop i = rest ∧ Knows 16 [(0, .func (.yield l) #[] #[]), (1, .pointer (some ⟨g, 0, none⟩)), (5, .slice Aa0 a0.length ca0), (6, .int .i64 (a0.length : Int)), (7, .int .i64 (i : Int))] a ∧ J pre w) a0.length ⟨[], a0, 0, by omega, rfl, rfl, (h.has (L := [.sn S]) (by exact ⟨rfl, rfl, rfl, rfl, rfl, trivial⟩)).k, hJ _ _ _ h0 (below_of h.m)⟩ (fun m a w hI => ?_)
  obtain ⟨pre, rest, i, him, hx, hl, hk, hJ0⟩ := hI
  have h := St.fresh hk (hJS _ _ hJ0)
  have hlen : a0.length ≤ maxLen := Nat.le_trans hsa0.1 hsa0.2.1
  refine c_rs ?_
  refine s_x h rfl rfl (by decide) (x_bin h.k rfl rfl rfl ib_lss) (fun a h => ?_)
  refine l_end ?_
  refine c_cs h rfl (fun hb => ?_) (fun hb => ?_)
  · have hlt : i < a0.length := by have := of_decide_eq_true hb; omega
    obtain ⟨x15, hx15⟩ : ∃ x, a0[i]? = some x := ⟨_, List.getElem?_eq_getElem hlt⟩
    have hdr : a0.drop i = x15 :: a0.drop (i + 1) := by
      obtain ⟨hh, rfl⟩ := List.getElem?_eq_some_iff.1 hx15
      exact List.drop_eq_getElem_cons hh
    rw [hdr] at hl
    subst hl
    have hidx : idx a0 (i : Int) = some x15 := by unfold idx; rw [if_pos (by omega), Int.toNat_natCast]; exact hx15
    obtain ⟨m16, hi20, hm21, hx22⟩ := idx_some hidx
    refine wp_skip ?_
    refine e_thenN ?_
    refine wp_seq ?_
    refine wp_block ?_
    refine c_rs ?_
    obtain ⟨b9, off10, k15, hA16, hu17, hc18⟩ := (hsa0).at1 rfl hx22 (h.m.snOK (i := 0) rfl)
    obtain ⟨e20, hr19⟩ := hu17
    cases e20
    refine s_x h rfl rfl (by decide) (x_iaddrE h.k rfl Try.underlying23 sz_int hA16 rfl rfl hi20 hm21) (fun a h => ?_)
    refine s_x h rfl rfl (by decide) (x_ld h.k rfl Try.underlying3 rfl rfl (hc18 _ (h.m.snOK (i := 0) rfl))) (fun a h => ?_)
    refine sAV h (fun a h => ?_)
    refine l_end ?_
    have hJ1 := hJ _ _ _ hJ0 (below_of h.m)
    refine wp_seq ?_
    refine (wpIn_wide (n := 0)).1 (wpIn_region_lit ?_)
    refine list_take 2 ?_
    refine sMV h (fun a h => ?_)
    refine sMV h (fun a h => ?_)
    refine l_nil ⟨rfl, ?_⟩
    refine s_yield h.k rfl rfl rfl (by decide) rfl (vs := [.int .i64 x15]) rfl (hY pre x15 _ _ hx hJ1) (fun e w hR => ?_)
    rcases hR with ⟨rfl, hJ2⟩ | ⟨rfl, hJ2⟩
    · refine ⟨true, rfl, fun a hk => ?_⟩
      have h := St.fresh hk (hJS _ _ hJ2)
      refine list_take 1 ?_
      refine s_x h rfl rfl (by decide) (x_not h.k rfl rfl) (fun a h => ?_)
      refine l_nil ⟨rfl, ?_⟩
      refine wpListIn_nil ?_
      refine e_thenN ?_
      refine c_cond h rfl (fun hb => absurd hb (by decide)) (fun hb => ?_)
      refine wp_skip ?_
      refine e_blkN ?_
      refine e_thenN ?_
      refine c_r ?_
      refine s_x h rfl rfl (by decide) (x_bin h.k rfl rfl rfl (ib_add rfl)) (fun a h => ?_)
      refine sMV h (fun a h => ?_)
      refine l_nil ?_
      obtain _ | m := m
      · omega
      have hw1 : IntKind.i64.wrap ((i : Int) + 1) = ((i + 1 : Nat) : Int) := by have := w64_of (x := (i : Int) + 1) (by unfold maxLen at hlen; omega); unfold w64 at this; omega
      rw [hw1] at h
      exact e_thenN ⟨m, Nat.lt_succ_self _, pre ++ [x15], a0.drop (i + 1), i + 1, by omega, by rw [List.append_assoc]; exact hx, rfl, (h.has (L := [.sn S]) (by exact ⟨rfl, rfl, rfl, rfl, rfl, trivial⟩)).k, hJ _ _ _ hJ2 (below_of h.m)⟩
    · refine ⟨false, rfl, fun a hk => ?_⟩
      have h := St.fresh (S := fun _ => none) (w := w) hk (fun _ _ h => by cases h)
      refine list_take 1 ?_
      refine s_x h rfl rfl (by decide) (x_not h.k rfl rfl) (fun a h => ?_)
      refine l_nil ⟨rfl, ?_⟩
      refine wpListIn_nil ?_
      refine e_thenN ?_
      refine c_cond h rfl (fun hb => ?_) (fun hb => absurd hb (by decide))
      refine wp_ret ?_
      refine e_blkR ?_
      refine e_thenR ?_
      refine e_thenR ?_
      refine e_blkR ?_
      exact r_ret0 h rfl ⟨⟨_, rfl⟩, .inr hJ2⟩
  · have hge : i = a0.length := by have := of_decide_eq_false hb; omega
    rw [hge, List.drop_length] at hl
    subst hl
    refine wp_exit ?_
    refine e_thenX ?_
    refine e_thenX ?_
    refine e_blkX ?_
    have hJ1 := hJ _ _ _ hJ0 (below_of h.m)
    rw [List.append_nil] at hx
    rw [← hx] at hJ1
    exact r_norm (r_ret0 h rfl ⟨⟨_, rfl⟩, .inl hJ1⟩)
theorem slS_r {S : Snap} {A : Option Addr} {c : Nat} {l : List Int} (h : slS tyI S A c l) : ∀ z ∈ l, r64 z := by
  obtain ⟨_, _, vs, _, hr⟩ := h
  have : ∀ (l : List Int) (vs : List Value), reps tyI S vs l → ∀ z ∈ l, r64 z := by
    intro l
    induction l with
    | nil => intro vs _ z hz; cases hz
    | cons x xs ih =>
      rintro vs ⟨c1, c2, h1, h2, h3⟩ z hz
      rcases List.mem_cons.1 hz with rfl | hz
      · exact h2.2
      · exact ih c2 h3 z hz
  exact this l vs hr
set_option maxRecDepth 100000 in
set_option maxHeartbeats 2000000 in
theorem slices_Values___int_int_ok (Fu : Nat) {S0 : Snap} (Aa0 : Option Addr) (ca0 : Nat) (a0 : List Int) (hsa0 : slS tyI S0 Aa0 ca0 a0) (r : List Int) (hf : slices_Values___int_int Fu a0 = some r) (w0 : World) (hm : Mem w0 (ownL ([] ++ [.sn S0])) ([] ++ [.sn S0]) w0) :
    Calls Try.prog 23 #[.slice Aa0 a0.length ca0] w0 (Ret w0 S0 [] (fun v L1 S1 => IterV Try.prog enc1 v r S1 ∧ L1 = [] ∧ (∀ z ∈ r, r64 z) ∧ True)) := by
  obtain rfl : a0 = r := Option.some.inj hf
  refine c_enterM Try.func23 rfl 4 rfl (by simp) _ hm _ rfl (fun a h => ?_)
  refine c_rs ?_
  refine s_box h rfl rfl rfl (by decide) rfl (cs := [.slice Aa0 a0.length ca0]) (by rfl) (fun a w g h => ?_)
  refine sAV h (fun a h => ?_)
  refine l_end ?_
  refine c_rs ?_
  refine s_makeFunc h rfl rfl rfl (by decide) (us := []) (vs := [.pointer (some ⟨g, 0, none⟩)]) rfl rfl (fun a h => ?_)
  refine sAV h (fun a h => ?_)
  refine l_end ?_
  refine wp_ret ?_
  obtain ⟨S', h1, h2, h3, h4, h5⟩ := h.m.freeze (fun _ hk => hk)
  have hb : w.heap[g]? = some (.cells #[.slice Aa0 a0.length ca0] _ (0, 0)) := h.m.ok 0 _ rfl
  refine r_ret1 h rfl (rv_tmp h rfl) ⟨_, [], S', rfl, ⟨values_iter a0 Aa0 ca0 (hsa0.mono h1) (fun W hW => ?_), rfl, slS_r hsa0, trivial⟩, rfl, ⟨h1, fun k o hk => h2 k o hk⟩, h5⟩
  have := hW g _ ((h4 g rfl).trans hb)
  simp [World.cell?, this]
end Go.Proofs.Ytnjmlihmnkbgdaa
