/- path.levels: an iterator, told as a list; its closure's walk. -/
import Derived.Test.YtohgmggdfmjgnaaEa
import Derived.Test.YtohgmggdfmjgnaaPr
set_option linter.unusedVariables false
set_option linter.unusedSimpArgs false
namespace Go.Proofs.Ytohgmggdfmjgnaa
open Go.RowKit
def path_levels_l0 (Fu : Nat) (n : Int) : Nat → Int → Int → Option (List (Int × Int))
  | 0, _, _ => none
  | k + 1, first, level => (path_Depth Fu n).bind fun d => if level ≤ d then ((path_Count Fu n level).bind fun c => (path_levels_l0 Fu n k (w64 (first + c)) (w64 (level + 1))).bind fun r => some ((level, first) :: r)) else some []
def path_levels (Fu : Nat) (n : Int) : Option (List (Int × Int)) := path_levels_l0 Fu n Fu 0 1
theorem levels_r (Fu : Nat) (n : Int) : ∀ (k : Nat) (x y : Int) (r : List (Int × Int)), r64 x → r64 y → path_levels_l0 Fu n k x y = some r → ∀ z ∈ r, r64 z.1 ∧ r64 z.2 := by
  intro k
  induction k with
  | zero => intro x y r hx hy h; rw [path_levels_l0] at h; cases h
  | succ k ih =>
    intro x y r hx hy h
    rw [path_levels_l0] at h
    obtain ⟨d, hd, h⟩ := bsome h
    by_cases hc : y ≤ d
    · rw [if_pos hc] at h
      obtain ⟨c, _, h⟩ := bsome h
      obtain ⟨rs, hrs, h⟩ := bsome h
      obtain rfl := Option.some.inj h
      intro z hz
      rcases List.mem_cons.1 hz with rfl | hz
      · exact ⟨hy, hx⟩
      · exact ih _ _ _ (w64_r _) (w64_r _) hrs z hz
    · rw [if_neg hc] at h
      obtain rfl := Option.some.inj h
      intro z hz; cases hz
def enc2 (x : Int × Int) : Array Value := #[.int .i64 x.1, .int .i64 x.2]
set_option maxRecDepth 100000 in
set_option maxHeartbeats 2000000 in
theorem levels_iter (Fu : Nat) (n : Int) (hn : r64 n) (xs : List (Int × Int)) (hf : path_levels Fu n = some xs) {S : Snap} {g : Nat} (hg : ∀ w, SnapOK S w → w.cell? ⟨g, 0, none⟩ = some (.int .i64 n)) :
    IterV Try.prog enc2 (.func (.func 65) #[] #[.pointer (some ⟨g, 0, none⟩)]) xs S := by
  refine ⟨_, _, rfl, enters_c Try.func65 rfl rfl, fun l J Jx W hJS hJ hJx hY h0 => ?_⟩
  show Calls _ _ #[.func (.yield l) #[] #[], .pointer (some ⟨g, 0, none⟩)] W _
  refine c_enterM Try.func65 rfl 21 rfl (by simp) _ (Mem.startS (hJS _ _ h0)) _ rfl (fun a h => ?_)
  refine c_rs ?_
  refine sAV h (fun a h => ?_)
  refine l_end ?_
  refine c_rs ?_
  refine sAV h (fun a h => ?_)
  refine l_end ?_
  refine wp_block ?_
  refine c_loop (fun m a w => ∃ (pre rest : List (Int × Int)) (x3 x4 : Int), xs = pre ++ rest ∧ path_levels_l0 Fu n m x3 x4 = some rest ∧ r64 x3 ∧ r64 x4 ∧ Knows 21 [(0, .func (.yield l) #[] #[]), (1, .pointer (some ⟨g, 0, none⟩)), (3, .int .i64 x3), (4, .int .i64 x4)] a ∧ J pre w) Fu ⟨[], xs, 0, 1, rfl, hf, ⟨by decide, by decide⟩, ⟨by decide, by decide⟩, (h.has (L := [.sn S]) (by exact ⟨rfl, rfl, rfl, rfl, trivial⟩)).k, hJ _ _ _ h0 (below_of h.m)⟩ (fun m a w hI => ?_)
  obtain ⟨pre, rest, x3, x4, hx, hl, hr3, hr4, hk, hJ0⟩ := hI
  have h := St.fresh hk (hJS _ _ hJ0)
  obtain _ | m := m
  · rw [path_levels_l0] at hl; cases hl
  rw [path_levels_l0] at hl
  refine wp_seq ?_
  refine c_rs ?_
  refine sMV h (fun a h => ?_)
  refine sX h (x_ld h.k rfl Try.underlying3 rfl rfl (hg _ (h.m.snOK (i := 0) rfl))) (fun a h => ?_)
  obtain ⟨d, hd, hl⟩ := bsome hl
  have hX := path_Depth_ok Fu (S0 := snapAll _) n hn _ hd _ h.startAll
  refine q_callX hX h rfl rfl rfl (by decide) Try.func21 rfl rfl rfl (fun a w v L1 S1 hR hb1 h => ?_)
  obtain ⟨rfl, rfl, hr12, _⟩ := hR
  refine sX h (x_bin h.k rfl rfl rfl ib_leq) (fun a h => ?_)
  refine l_end ?_
  refine c_cond h rfl (fun hb => ?_) (fun hb => ?_)
  · rw [if_pos (of_decide_eq_true hb)] at hl
    obtain ⟨c, hc, hl⟩ := bsome hl
    obtain ⟨rs, hrs, hl⟩ := bsome hl
    obtain rfl := Option.some.inj hl
    refine wp_skip ?_
    refine e_thenN ?_
    have hJ1 := hJ _ _ _ hJ0 (below_of h.m)
    refine wp_seq ?_
    refine wp_block ?_
    refine wp_seq ?_
    refine wp_seq ?_
    refine (wpIn_wide (n := 0)).1 (wpIn_region_lit ?_)
    refine list_take 3 ?_
    refine sMV h (fun a h => ?_)
    refine sMV h (fun a h => ?_)
    refine sMV h (fun a h => ?_)
    refine l_nil ⟨rfl, ?_⟩
    refine s_yield h.k rfl rfl rfl (by decide) rfl (vs := [.int .i64 x4, .int .i64 x3]) rfl (hY pre (x4, x3) rs _ hx hJ1) (fun e w hR => ?_)
    rcases hR with ⟨rfl, hJ2⟩ | ⟨rfl, hJ2⟩
    · refine ⟨true, rfl, fun a hk => ?_⟩
      have h := St.fresh hk (hJS _ _ hJ2)
      refine list_take 1 ?_
      refine sX h (x_not h.k rfl rfl) (fun a h => ?_)
      refine l_nil ⟨rfl, ?_⟩
      refine wpListIn_nil ?_
      refine e_thenN ?_
      refine c_cond h rfl (fun hb => absurd hb (by decide)) (fun hb => ?_)
      refine wp_skip ?_
      refine e_thenN ?_
      refine c_r ?_
      refine sMV h (fun a h => ?_)
      refine sX h (x_ld h.k rfl Try.underlying3 rfl rfl (hg _ (h.m.snOK (i := 0) rfl))) (fun a h => ?_)
      refine sMV h (fun a h => ?_)
      have hX := path_Count_ok Fu (S0 := snapAll _) n hn x4 hr4 _ hc _ h.startAll
      refine q_callX hX h rfl rfl rfl (by decide) Try.func48 rfl rfl rfl (fun a w v L1 S1 hR hb1 h => ?_)
      obtain ⟨rfl, rfl, hrc, _⟩ := hR
      refine sX h (x_bin h.k rfl rfl rfl (ib_add rfl)) (fun a h => ?_)
      refine sAV h (fun a h => ?_)
      refine l_nil ?_
      refine e_blkN ?_
      refine e_thenN ?_
      refine c_r ?_
      refine sMV h (fun a h => ?_)
      refine sX h (x_bin h.k rfl rfl rfl (ib_add rfl)) (fun a h => ?_)
      refine sAV h (fun a h => ?_)
      refine l_nil ?_
      exact e_thenN ⟨m, Nat.lt_succ_self _, pre ++ [(x4, x3)], rs, _, _, by rw [hx, List.append_assoc]; rfl, hrs, w64_r _, w64_r _, (h.has (L := [.sn S]) (by exact ⟨rfl, rfl, rfl, rfl, trivial⟩)).k, hJ _ _ _ hJ2 (below_of h.m)⟩
    · refine ⟨false, rfl, fun a hk => ?_⟩
      have h := St.fresh (S := fun _ => none) (w := w) hk (fun _ _ h => by cases h)
      refine list_take 1 ?_
      refine sX h (x_not h.k rfl rfl) (fun a h => ?_)
      refine l_nil ⟨rfl, ?_⟩
      refine wpListIn_nil ?_
      refine e_thenN ?_
      refine c_cond h rfl (fun hb => ?_) (fun hb => absurd hb (by decide))
      refine wp_ret ?_
      refine e_thenR ?_
      refine e_blkR ?_
      refine e_thenR ?_
      refine e_thenR ?_
      refine e_blkR ?_
      exact r_ret0 h rfl ⟨⟨_, rfl⟩, .inr hJ2⟩
  · rw [if_neg (of_decide_eq_false hb)] at hl
    obtain rfl := Option.some.inj hl
    refine wp_exit ?_
    refine e_thenX ?_
    refine e_thenX ?_
    refine e_blkX ?_
    have hJ1 := hJ _ _ _ hJ0 (below_of h.m)
    rw [List.append_nil] at hx
    rw [hx]
    exact r_norm (r_ret0 h rfl ⟨⟨_, rfl⟩, .inl hJ1⟩)
set_option maxRecDepth 100000 in
set_option maxHeartbeats 2000000 in
theorem path_levels_ok (Fu : Nat) {S0 : Snap} (a0 : Int) (hra0 : r64 a0) (r : List (Int × Int)) (hf : path_levels Fu a0 = some r) (w0 : World) (hm : Mem w0 (ownL ([] ++ [.sn S0])) ([] ++ [.sn S0]) w0) :
    Calls Try.prog 47 #[.int .i64 a0] w0 (Ret w0 S0 [] (fun v L1 S1 => IterV Try.prog enc2 v r S1 ∧ L1 = [] ∧ (∀ z ∈ r, r64 z.1 ∧ r64 z.2) ∧ True)) := by
  refine c_enterM Try.func47 rfl 4 rfl (by simp) _ hm _ rfl (fun a h => ?_)
  refine c_rs ?_
  refine s_box h rfl rfl rfl (by decide) rfl (cs := [.int .i64 a0]) (by rfl) (fun a w g h => ?_)
  refine sAV h (fun a h => ?_)
  refine l_end ?_
  refine c_rs ?_
  refine s_makeFunc h rfl rfl rfl (by decide) (us := []) (vs := [.pointer (some ⟨g, 0, none⟩)]) rfl rfl (fun a h => ?_)
  refine sAV h (fun a h => ?_)
  refine l_end ?_
  refine wp_ret ?_
  obtain ⟨S', h1, h2, h3, h4, h5⟩ := h.m.freeze (fun _ hk => hk)
  have hb : w.heap[g]? = some (.cells #[.int .i64 a0] _ (0, 0)) := h.m.ok 0 _ rfl
  refine r_ret1 h rfl (rv_tmp h rfl) ⟨_, [], S', rfl, ⟨levels_iter Fu a0 hra0 r hf (fun W hW => ?_), rfl, levels_r Fu a0 Fu 0 1 r ⟨by decide, by decide⟩ ⟨by decide, by decide⟩ hf, trivial⟩, rfl, ⟨h1, fun k o hk => h2 k o hk⟩, h5⟩
  have := hW g _ ((h4 g rfl).trans hb)
  simp [World.cell?, this]
end Go.Proofs.Ytohgmggdfmjgnaa
