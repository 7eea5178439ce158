/- Texts put together. -/
import Derived.Test.YtohgmggdfmjgnaaPc
import Derived.Test.YtohgmggdfmjgnaaWd
set_option linter.unusedVariables false
set_option linter.unusedSimpArgs false
namespace Go.Proofs.Ytohgmggdfmjgnaa
open Go.RowKit
section
def fzB (S : Snap) (g : Nat) (cs : List Value) : Prop := ∀ w, SnapOK S w → w.rangeAt g 0 cs
theorem fzB.mono {S S' : Snap} {g : Nat} {cs : List Value} (h : fzB S g cs) (l : S.le S') : fzB S' g cs := fun w hw => h w (SnapOK.le l hw)
section
variable {P : Program} {ops : Array Oper} {rest : List Oper} {o : Oper} {Q : Exit → Act → World → Prop} {N : Nat} {w0 w : World} {B : Nat → Prop} {ρ : Slots} {L : List Ch} {a : Act}
/-- a value is stored into a row of one's own: what the row tells is said later -/
theorem q_strRaw (h : St N w0 B ρ L a w) (hg : o.guard = none) {x y : Operand} {t : TypeId} (ho : o.op = .store t x y) (hd : o.dst = none) (hs : (P.info? t).map (·.size) = some 1)
    {A : Option Addr} {g c m n : Nat} {cs : List Value} {E : TypeId} (hA : A = some ⟨g, 0, none⟩) (hx : ev ρ x = some (.pointer (some ⟨g, 0 + m * 1, none⟩))) {v : Value} (hy : ev ρ y = some v) (i : Nat) (hi : L[i]? = some (.row (.slice A n c) E 1 n cs)) (hv : v.oneCell' = true) (hm : m < cs.length)
    (k : ∀ a' w', St N w0 B ρ (L.set i (.row (.slice A n c) E 1 n (cs.set m v))) a' w' → wpList P ops Q rest a' w') : wpList P ops Q (o :: rest) a w := by
  subst hA
  refine s_str h hg ho hd hs hx hy hv i hi (by omega) (fun a' w' h => ?_)
  rw [show 0 + m * 1 = m by omega] at h
  exact k a' w' h
end
end
section
def slices_Clone___byte_byte (Fu : Nat) (a0 : List UInt8) : Option ((List UInt8)) :=
  (app 1 [] a0).bind fun x6 => some x6
set_option maxRecDepth 100000 in
set_option maxHeartbeats 2000000 in
theorem slices_Clone___byte_byte_ok (Fu : Nat) {S0 : Snap} (Aa0 : Option Addr) (ca0 : Nat) (a0 : List UInt8) (hsa0 : slS ty8 S0 Aa0 ca0 a0) (r : (List UInt8)) (hf : slices_Clone___byte_byte Fu a0 = some r) (w0 : World) (hm : Mem w0 (ownL ([] ++ [.sn S0])) ([] ++ [.sn S0]) w0) :
    Calls Try.prog 30 #[.slice Aa0 a0.length ca0] w0 (Ret w0 S0 [] (fun v L1 S1 => ∃ (A11 : Option Addr), ∃ (c12 : Nat), ∃ (cs13 : List Value), v = .slice A11 r.length c12 ∧ L1 = [.row (.slice A11 r.length c12) 5 1 r.length cs13] ∧ reps ty8 S1 cs13 r ∧ True)) := by
  unfold slices_Clone___byte_byte at hf
  refine c_enterM Try.func30 rfl 8 rfl (by simp) _ hm _ rfl (fun a h => ?_)
  obtain _ | ad := Aa0
  · obtain rfl := slS.none_nil hsa0 (hm.snOK (i := 0) rfl) (by decide)
    replace hf : some [] = some r := by simpa [app, maxLen] using hf
    have h := h.slots (ρ' := [(0, .slice none 0 ca0)]) (by simp)
    refine c_rs ?_
    refine sAV h (fun a h => ?_)
    refine l_end ?_
    refine wp_seq ?_
    refine c_rs ?_
    refine sMV h (fun a h => ?_)
    refine sX h (x_eqlSNn h.k rfl Try.underlying22 rfl rfl) (fun a h => ?_)
    refine l_end ?_
    refine c_cond h rfl (fun hb => ?_) (fun hb => ?_)
    · refine c_rs ?_
      refine sAV h (fun a h => ?_)
      refine l_end ?_
      refine wp_ret ?_
      refine e_thenR ?_
      obtain rfl := Option.some.inj hf
      have h := h.mem (h.m.nilrow 5 1)
      exact r_ret1 h rfl (rv_tmp h rfl) ⟨_, [.row (.slice none ([]).length 0) 5 1 ([]).length []], _, rfl, ⟨none, 0, [], rfl, rfl, (show reps ty8 S0 [] [] from rfl), trivial⟩, rfl, (Up.refl _ _ _), h.m⟩
    · exact absurd hb (by decide)
  · refine c_rs ?_
    refine sAV h (fun a h => ?_)
    refine l_end ?_
    refine wp_seq ?_
    refine c_rs ?_
    refine sMV h (fun a h => ?_)
    refine sX h (x_eqlSNs h.k rfl Try.underlying22 rfl rfl) (fun a h => ?_)
    refine l_end ?_
    refine c_cond h rfl (fun hb => ?_) (fun hb => ?_)
    · exact absurd hb (by decide)
    · refine wp_skip ?_
      refine e_thenN ?_
      refine c_rs ?_
      refine q_bslice0 h rfl rfl rfl (by decide) Try.underlying22 sz_uint8 (fun a w A1 h => ?_)
      refine sMV h (fun a h => ?_)
      obtain ⟨x2, h3, hf⟩ := bsome hf
      obtain ⟨_, _, vs4, hrd5, hrp6⟩ := id hsa0
      refine q_append (T := ty8) (S := S0) h rfl rfl rfl (by decide) Try.underlying22 zb_uint8 rfl (by decide) rfl 0 rfl (show reps ty8 S0 [] [] from rfl) rfl hrp6 (hrd5 _ (h.m.snOK (i := 1) rfl)) h3 (fun a w A7 c8 cs9 hq10 h => ?_)
      refine sAV h (fun a h => ?_)
      refine l_end ?_
      refine wp_ret ?_
      rw [← Option.some.inj hf]
      exact r_ret1 h rfl (rv_tmp h rfl) ⟨_, [.row (.slice A7 x2.length c8) 5 1 x2.length cs9], _, rfl, ⟨A7, c8, cs9, rfl, rfl, hq10, trivial⟩, rfl, (Up.refl _ _ _), h.m⟩
end
end Go.Proofs.Ytohgmggdfmjgnaa
