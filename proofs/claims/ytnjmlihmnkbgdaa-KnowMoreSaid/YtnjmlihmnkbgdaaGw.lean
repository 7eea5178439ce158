/- slices.Grow of no slice at all (ints). -/
import Derived.Test.YtnjmlihmnkbgdaaSo
import Derived.Test.YtnjmlihmnkbgdaaTy
set_option linter.unusedVariables false
set_option linter.unusedSimpArgs false
namespace Go.Proofs.Ytnjmlihmnkbgdaa
open Go.RowKit
section
variable {P : Program} {o : Oper} {N : Nat} {w0 w : World} {B : Nat → Prop} {ρ : Slots} {L : List Ch} {a : Act}
theorem x_cap (h : Knows N ρ a) {x : Operand} {t : TypeId} (ho : o.op = .call { callee := .builtin .cap, args := #[x], argTypes := #[t] }) {e : TypeId} (ht : P.underlying t = some (.slice e))
    {A : Option Addr} {n c : Nat} (hx : ev ρ x = some (.slice A n c)) :
    (execOp a.eval o).run P w = .ok (.value (.int .i64 (c : Int))) w := by simp [execOp, ho, resolve, invoke, builtin, h.eval hx, Builtin.cap_, run_underlying ht, goInt]
/-- the head of a row of one's own, none of it -/
theorem Mem.row0 (h : Mem w0 B L w) {i : Nat} {v : Value} {E : TypeId} {sz n : Nat} {cs : List Value} (hi : L[i]? = some (.row v E sz n cs)) : ∃ A c, v = .slice A n c ∧ Mem w0 B (L.set i (.row (.slice A 0 c) E sz 0 [])) w := by
  obtain ⟨h1, h2⟩ := h.ok i _ hi
  rcases h2 with ⟨rfl, rfl⟩ | ⟨g, cap, cur, rfl, h3, h4, h5, h6, h7, h8⟩
  · refine ⟨none, 0, rfl, ?_⟩
    exact h.write hi (Chg.refl _ _) ⟨by simp, .inl ⟨rfl, rfl⟩⟩ (fun k hk => .inl hk)
  · refine ⟨some ⟨g, 0, none⟩, cap, rfl, ?_⟩
    exact h.write hi (Chg.refl _ _) ⟨by simp, .inr ⟨g, cap, cur, rfl, h3, h4, Nat.zero_le _, h6, h7, by simp⟩⟩ (fun k hk => .inl hk)
end
def slices_Grow___int_int__nils0 (Fu : Nat) (a1 : Int) : Option (List Int) := if 0 ≤ a1 ∧ a1 ≤ 1000000000 then some [] else none
set_option maxRecDepth 100000 in
set_option maxHeartbeats 2000000 in
theorem slices_Grow___int_int__nils0_ok (Fu : Nat) {S0 : Snap} (a1 : Int) (hra1 : r64 a1) (r : List Int) (hf : slices_Grow___int_int__nils0 Fu a1 = some r) (w0 : World) (hm : Mem w0 (ownL ([] ++ [.sn S0])) ([] ++ [.sn S0]) w0) :
    Calls Try.prog 33 #[.slice none 0 0, .int .i64 a1] w0 (Ret w0 S0 [] (fun v L1 S1 => ∃ (A2 : Option Addr), ∃ (c3 : Nat), ∃ (cs4 : List Value), v = .slice A2 r.length c3 ∧ L1 = [.row (.slice A2 r.length c3) 3 1 r.length cs4] ∧ reps tyI S1 cs4 r ∧ True)) := by
  unfold slices_Grow___int_int__nils0 at hf
  by_cases hb : 0 ≤ a1 ∧ a1 ≤ 1000000000
  · rw [if_pos hb] at hf
    obtain rfl := Option.some.inj hf
    obtain ⟨m, rfl⟩ : ∃ m : Nat, a1 = (m : Int) := ⟨a1.toNat, by omega⟩
    have hw : IntKind.i64.wrap ((m : Int) - IntKind.i64.wrap (((0 : Nat) : Int) - ((0 : Nat) : Int))) = (m : Int) := by
      have e : IntKind.i64.wrap (((0 : Nat) : Int) - ((0 : Nat) : Int)) = 0 := by decide
      rw [e]
      have := w64_of (x := (m : Int) - 0) (by omega)
      unfold w64 at this; omega
    refine c_enterM Try.func33 rfl 27 rfl (by simp) _ hm _ rfl (fun a h => ?_)
    refine c_rs ?_
    refine sAV h (fun a h => ?_)
    refine l_end ?_
    refine wp_seq ?_
    refine c_rs ?_
    refine sMV h (fun a h => ?_)
    refine s_x h rfl rfl (by decide) (x_bin h.k rfl rfl rfl ib_lss) (fun a h => ?_)
    refine l_end ?_
    refine c_cond h rfl (fun hb => absurd (of_decide_eq_true hb) (by omega)) (fun _ => ?_)
    refine wp_skip ?_
    refine e_thenN ?_
    refine wp_seq ?_
    refine c_rs ?_
    refine sMV h (fun a h => ?_)
    refine sMV h (fun a h => ?_)
    refine s_x h rfl rfl (by decide) (x_cap h.k rfl Try.underlying23 rfl) (fun a h => ?_)
    refine sMV h (fun a h => ?_)
    refine s_x h rfl rfl (by decide) (x_len h.k rfl Try.underlying23 rfl) (fun a h => ?_)
    refine s_x h rfl rfl (by decide) (x_bin h.k rfl rfl rfl (ib_sub rfl)) (fun a h => ?_)
    refine s_x h rfl rfl (by decide) (x_bin h.k rfl rfl rfl (ib_sub rfl)) (fun a h => ?_)
    rw [hw] at h
    refine sAV h (fun a h => ?_)
    refine l_end ?_
    refine c_rs ?_
    refine sMV h (fun a h => ?_)
    refine s_x h rfl rfl (by decide) (x_bin h.k rfl rfl rfl ib_gtr) (fun a h => ?_)
    refine l_end ?_
    refine c_cond h rfl (fun _ => ?_) (fun _ => ?_)
    · refine c_r ?_
      refine sMV h (fun a h => ?_)
      refine sMV h (fun a h => ?_)
      refine s_x h rfl rfl (by decide) (x_cap h.k rfl Try.underlying23 rfl) (fun a h => ?_)
      refine s_slice h rfl rfl rfl (by decide) Try.underlying23 sz_int rfl 0 0 0 rfl ⟨_, _, rfl, rfl⟩ rfl (fun e => by cases e) (Nat.le_refl _) (Nat.le_refl _) (Nat.le_refl _) (fun a A hA h => ?_)
      obtain rfl : A = none := hA
      refine sMV h (fun a h => ?_)
      have h := h.mem (h.m.nilrow 3 1)
      refine s_appendZ h rfl rfl rfl (by decide) Try.underlying23 Try.underlying3 zb_int rfl rfl rfl 0 rfl rfl m rfl (by omega) (by unfold maxLen; omega) (fun a w v h => ?_)
      obtain ⟨A1, c1, rfl, hm0⟩ := h.m.row0 (i := 0) rfl
      refine sMV h (fun a h => ?_)
      refine s_x h rfl rfl (by decide) (x_len h.k rfl Try.underlying23 rfl) (fun a h => ?_)
      refine s_slice h rfl rfl rfl (by decide) Try.underlying23 sz_int rfl 0 0 c1 rfl ⟨_, _, rfl, rfl⟩ rfl (fun e => by cases e) (Nat.le_refl _) (Nat.zero_le _) (Nat.le_refl _) (fun a A hA h => ?_)
      obtain rfl : A = A1 := by rw [hA]; split; rfl; cases A1 <;> simp [Addr.add]
      refine sAV h (fun a h => ?_)
      refine l_nil ?_
      refine e_thenN ?_
      have h := h.mem hm0
      refine c_rs ?_
      refine sMV h (fun a h => ?_)
      refine sAV h (fun a h => ?_)
      refine l_end ?_
      refine wp_ret ?_
      exact r_ret1 h rfl (rv_tmp h rfl) ⟨_, [.row (.slice A 0 c1) 3 1 0 []], _, rfl, ⟨A, c1, [], rfl, rfl, rfl, trivial⟩, rfl, (Up.refl _ _ _), h.m⟩
    · refine wp_skip ?_
      refine e_thenN ?_
      refine c_rs ?_
      refine sMV h (fun a h => ?_)
      refine sAV h (fun a h => ?_)
      refine l_end ?_
      refine wp_ret ?_
      have h := h.mem (h.m.nilrow 3 1)
      exact r_ret1 h rfl (rv_tmp h rfl) ⟨_, [.row (.slice none 0 0) 3 1 0 []], _, rfl, ⟨none, 0, [], rfl, rfl, rfl, trivial⟩, rfl, (Up.refl _ _ _), h.m⟩
  · rw [if_neg hb] at hf; cases hf
end Go.Proofs.Ytnjmlihmnkbgdaa
