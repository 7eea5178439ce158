/- The statement MerkleDistinct. -/
import Derived.Test.YtlgcfnbhnpnkiaaMkL
import Derived.Test.YtlgcfnbhnpnkiaaMapA
import Derived.Test.YtlgcfnbhnpnkiaaBig2
set_option linter.unusedVariables false
set_option linter.unusedSimpArgs false
namespace Go.Proofs.Ytlgcfnbhnpnkiaa
open Go.RowKit

section
variable {P : Program} {ops : Array Oper} {Q : Exit → Act → World → Prop} {N d : Nat} {w0 w : World} {B : Nat → Prop} {ρ : Slots} {L L' : List Ch} {a : Act}
theorem s_andL (h : St N w0 B ρ L a w) (L' : List Ch) (n : Nat) {l : List Oper} {t : Nat} {b c : Bool} (hb : ρ.lookup t = some (.bool b)) (h1 : b = true → wpList P ops (Exit.then (fun a' w' => St N w0 B ((d, .bool c) :: ρ) L' a' w') Q) (l.take n) a w)
    (h0 : b = false → wpList P ops (Exit.then (fun a' w' => St N w0 B ((d, .bool false) :: ρ) L' a' w') Q) (l.take n) a w) (k : ∀ a' w', St N w0 B ((d, .bool (b && c)) :: ρ) L' a' w' → wpList P ops Q (l.drop n) a' w') : wpList P ops Q l a w := by
  refine l_split n (fun a' w' => St N w0 B ((d, .bool (b && c)) :: ρ) L' a' w') ?_ k
  cases b
  · exact h0 rfl
  · exact h1 rfl
end
def addN (ks : List (List UInt8)) (x : List UInt8) : List (List UInt8) := if x = z32 then ks else if x ∈ ks then ks else ks ++ [x]
/-- the different ones -/
def keysL (l : List (List UInt8)) : List (List UInt8) := l.foldl addN []
theorem keysL_snoc (l : List (List UInt8)) (x : List UInt8) : keysL (l ++ [x]) = addN (keysL l) x := by simp [keysL, List.foldl_append]
theorem keysL_take (l : List (List UInt8)) (k : Nat) (h : k < l.length) : keysL (l.take (k + 1)) = addN (keysL (l.take k)) l[k] := by rw [List.take_succ_eq_append_getElem h, keysL_snoc]
theorem foldN_mem (l : List (List UInt8)) : ∀ ks x, x ∈ l.foldl addN ks ↔ x ∈ ks ∨ (x ∈ l ∧ x ≠ z32) := by
  induction l with
  | nil => intro ks x; simp
  | cons y l ih =>
    intro ks x
    rw [List.foldl_cons, ih]
    unfold addN
    by_cases h1 : y = z32
    · rw [if_pos h1]
      constructor
      · rintro (h | ⟨h, h'⟩)
        · exact .inl h
        · exact .inr ⟨List.mem_cons_of_mem _ h, h'⟩
      · rintro (h | ⟨h, h'⟩)
        · exact .inl h
        · rcases List.mem_cons.1 h with rfl | h2
          · exact absurd h1 h'
          · exact .inr ⟨h2, h'⟩
    · rw [if_neg h1]
      by_cases h2 : y ∈ ks
      · rw [if_pos h2]
        constructor
        · rintro (h | ⟨h, h'⟩)
          · exact .inl h
          · exact .inr ⟨List.mem_cons_of_mem _ h, h'⟩
        · rintro (h | ⟨h, h'⟩)
          · exact .inl h
          · rcases List.mem_cons.1 h with rfl | h3
            · exact .inl h2
            · exact .inr ⟨h3, h'⟩
      · rw [if_neg h2]
        constructor
        · rintro (h | ⟨h, h'⟩)
          · rcases List.mem_append.1 h with h3 | h3
            · exact .inl h3
            · rw [List.mem_singleton.1 h3]; exact .inr ⟨List.mem_cons_self .., h1⟩
          · exact .inr ⟨List.mem_cons_of_mem _ h, h'⟩
        · rintro (h | ⟨h, h'⟩)
          · exact .inl (List.mem_append_left _ h)
          · rcases List.mem_cons.1 h with rfl | h3
            · exact .inl (List.mem_append_right _ (List.mem_singleton.2 rfl))
            · exact .inr ⟨h3, h'⟩
theorem keysL_mem (l : List (List UInt8)) (x : List UInt8) : x ∈ keysL l ↔ x ∈ l ∧ x ≠ z32 := by unfold keysL; rw [foldN_mem]; simp
theorem foldN_nodup (l : List (List UInt8)) : ∀ ks, ks.Nodup → (l.foldl addN ks).Nodup := by
  induction l with
  | nil => intro ks h; exact h
  | cons y l ih =>
    intro ks h
    rw [List.foldl_cons]
    refine ih _ ?_
    unfold addN
    split
    · exact h
    · split
      · exact h
      · next h2 =>
        rw [List.nodup_append]
        exact ⟨h, by simp, fun a ha b hb => by rw [List.mem_singleton.1 hb]; rintro rfl; exact h2 ha⟩
theorem keysL_nodup (l : List (List UInt8)) : (keysL l).Nodup := foldN_nodup l [] List.nodup_nil
theorem nodup_le {α : Type} [DecidableEq α] : ∀ (a b : List α), a.Nodup → (∀ x ∈ a, x ∈ b) → a.length ≤ b.length
  | [], _, _, _ => Nat.zero_le _
  | x :: a, b, h, hs => by
    have hx := hs x (List.mem_cons_self ..)
    have h2 := nodup_le a (b.erase x) (List.nodup_cons.1 h).2 (fun y hy => by
      have : y ≠ x := fun e => (List.nodup_cons.1 h).1 (e ▸ hy)
      exact (List.mem_erase_of_ne this).2 (hs y (List.mem_cons_of_mem _ hy)))
    rw [List.length_erase_of_mem hx] at h2
    have := List.length_pos_of_mem hx
    simp only [List.length_cons]; omega
theorem keysL_same (a b : List (List UInt8)) (h : ∀ x, x ∈ a ↔ x ∈ b) : (keysL a).length = (keysL b).length :=
  Nat.le_antisymm (nodup_le _ _ (keysL_nodup a) (fun x hx => (keysL_mem b x).2 (by have := (keysL_mem a x).1 hx; exact ⟨(h x).1 this.1, this.2⟩))) (nodup_le _ _ (keysL_nodup b) (fun x hx => (keysL_mem a x).2 (by have := (keysL_mem b x).1 hx; exact ⟨(h x).2 this.1, this.2⟩)))
theorem keysL_count (l : List (List UInt8)) (k : Nat) (h : k < l.length) : (keysL (l.take (k + 1))).length = (keysL (l.take k)).length + (if l[k] ≠ z32 ∧ l[k] ∉ l.take k then 1 else 0) := by
  rw [keysL_take l k h]
  unfold addN
  by_cases h1 : l[k] = z32
  · rw [if_pos h1, if_neg (by simp [h1])]; rfl
  · rw [if_neg h1]
    by_cases h2 : l[k] ∈ l.take k
    · rw [if_pos ((keysL_mem _ _).2 ⟨h2, h1⟩), if_neg (fun hh => hh.2 h2)]; rfl
    · rw [if_neg (fun hh => h2 ((keysL_mem _ _).1 hh).1), if_pos ⟨h1, h2⟩]; simp
theorem mem_take_succ (l : List (List UInt8)) (j : Nat) (h : j < l.length) (x : List UInt8) : x ∈ l.take (j + 1) ↔ x ∈ l.take j ∨ x = l[j] := by rw [List.take_succ_eq_append_getElem h, List.mem_append, List.mem_singleton]
def keyM : KeyD Try.prog 116 (List UInt8) := keyB Try.underlying116 Try.underlying5 sz_uint8 (by kernel_rfl) (by kernel_rfl)
set_option maxRecDepth 100000 in
theorem distinct_ok (w0 : World) (A : Option Addr) (l : List (List UInt8)) (c : Nat) (hl : S32 l) (hr : Rd w0 A (by8 l.flatten)) (h2 : l.length ≤ 1099511627776) :
    Calls Try.prog 28 #[.slice A l.length c] w0 fun e w' => e = .returned (.int .i64 ((keysL l).length : Int)) ∧ Below w0.heap.size w0 w' := by
  refine c_enter Try.func28 rfl 21 rfl (by simp) (fun _ => False) _ rfl (fun a h => ?_)
  have h := h.mem (h.m.arg (rdP A (by8 l.flatten)) hr (fun _ _ hh => hh))
  refine c_rs ?_ -- region 0
  refine s_assign h rfl _ rfl rfl (by decide) rfl (fun a h => ?_)
  refine l_end ?_
  refine c_rs ?_ -- region 1
  refine s_makeMap h rfl rfl rfl (by decide) (fun a w g6 h => ?_)
  refine s_assign h rfl _ rfl rfl (by decide) rfl (fun a h => ?_)
  refine l_end ?_
  refine wp_seq ?_
  refine c_rs ?_ -- region 2
  refine s_move h rfl _ rfl rfl (by decide) rfl (fun a h => ?_)
  refine s_len h rfl rfl rfl (by decide) Try.underlying39 rfl (fun a h => ?_)
  refine s_move h rfl _ rfl rfl (by decide) rfl (fun a h => ?_)
  refine l_end ?_
  refine wp_block ?_
  refine c_loop (fun m a w => ∃ (k : Nat) (es : Array MapEntry) (cl : Nat) (ps : List (List UInt8 × Value)), k + m = l.length ∧ keyM.Is es.toList ps ∧ ps.map (·.1) = keysL (l.take k) ∧ St 21 w0 (fun _ => False) [(3, .map (some g6)), (7, .slice A l.length c), (8, .int .i64 (l.length : Int)), (9, .int .i64 (k : Int))] [.obj g6 (.map es cl), .ro (rdP A (by8 l.flatten))] a w) l.length ⟨0, #[], 0, [], by omega, ⟨rfl, fun p hp => by cases hp⟩, rfl, h.has (by exact ⟨rfl, rfl, rfl, rfl, trivial⟩)⟩ (fun m a w hI => ?_)
  obtain ⟨k, es, cl, ps, hk, hD, hps, h⟩ := hI
  refine c_rs ?_ -- region 3
  refine s_bin h rfl rfl rfl (by decide) rfl rfl (ib_lss) (fun a h => ?_)
  refine l_end ?_
  refine c_cs h rfl (fun hb => ?_) (fun hb => ?_)
  · have hlt : k < l.length := by have := of_decide_eq_true hb; omega
    obtain ⟨b, off, hA⟩ := (show Rd w A (by8 l.flatten) from h.m.ok 1 _ rfl).addr (by rw [by8_length, flat_len hl]; omega)
    subst hA
    have ho32 := hl.at hlt
    have hsum : w.rangeAt b (off + k * 32) (by8 l[k]) := Rd.sum hl (h.m.ok 1 _ rfl) hlt
    have hkt := keysL_take l k hlt
    refine wp_skip ?_
    refine e_thenN ?_
    refine wp_seq ?_
    refine wp_block ?_
    refine c_rs ?_ -- region 4
    refine s_iaddr h rfl rfl rfl (by decide) Try.underlying39 sz_A32_uint8 rfl rfl (m := k) (by omega) (by omega) (r := off + k * 32) (by omega) (fun a h => ?_)
    refine s_ldR h rfl rfl rfl (by decide) ag_A32_uint8 rfl (by8 l[k]) (by rw [by8_length, ho32]) hsum (fun a h => ?_)
    refine s_alloc h rfl rfl rfl (by decide) zi_A32_uint8 rfl (fun a w g5 h => ?_)
    refine s_stW h rfl rfl rfl ag_A32_uint8 rfl rfl (by first | assumption | (rw [by8_length]; assumption) | (rw [by8_length]; rfl) | rfl | decide) (by first | exact by8_one _ | simp [Value.oneCell']) 0 rfl (by first | assumption | (rw [by8_length]; assumption) | (rw [by8_length]; rfl) | rfl | decide) (fun a w h => ?_)
    refine l_end ?_
    refine c_rs ?_ -- region 5
    refine s_ldW h rfl rfl rfl (by decide) ag_A32_uint8 rfl 0 rfl (by first | assumption | (rw [by8_length]; assumption) | (rw [by8_length]; rfl) | rfl | decide) (fun a h => ?_)
    refine s_build h rfl rfl rfl (by decide) [] rfl (by8 z32) (by kernel_rfl) (fun a h => ?_)
    refine s_neA h rfl rfl rfl (by decide) Try.underlying40 Try.underlying5 sz_uint8 (by kernel_rfl) rfl rfl ho32 z32_length (fun a h => ?_)
    refine l_end ?_
    refine c_cond h rfl (fun hb => ?_) (fun hb => ?_)
    · have hnz : l[k] ≠ z32 := by simpa using hb
      have hst := setP_keys l[k] (.bool true) ps
      rw [hps] at hst
      rw [addN, if_neg hnz] at hkt
      refine c_r ?_ -- region 6
      refine s_move h rfl _ rfl rfl (by decide) rfl (fun a h => ?_)
      refine s_ldW h rfl rfl rfl (by decide) ag_A32_uint8 rfl 0 rfl (by first | assumption | (rw [by8_length]; assumption) | (rw [by8_length]; rfl) | rfl | decide) (fun a h => ?_)
      refine s_mapSet h rfl rfl rfl Try.underlying115 rfl 1 rfl keyM hD (x := l[k]) ho32 rfl rfl (fun a w es' cl' hD' h => ?_)
      refine l_nil ?_
      refine e_blkN ?_
      refine e_thenN ?_
      refine c_r ?_ -- region 7
      refine s_bin h rfl rfl rfl (by decide) rfl rfl (ib_add (nw64 (by omega))) (fun a h => ?_)
      refine s_move h rfl _ rfl rfl (by decide) rfl (fun a h => ?_)
      refine l_nil ?_
      exact e_thenN ⟨m - 1, by omega, k + 1, es', cl', _, by omega, hD', by rw [hst, hkt]; congr, (h.pick [1, 2] (by decide) rfl).has (by exact ⟨rfl, rfl, rfl, rfl, trivial⟩)⟩
    · have hz : l[k] = z32 := by simpa using hb
      rw [addN, if_pos hz] at hkt
      refine wp_skip ?_
      refine e_blkN ?_
      refine e_thenN ?_
      refine c_r ?_ -- region 7
      refine s_bin h rfl rfl rfl (by decide) rfl rfl (ib_add (nw64 (by omega))) (fun a h => ?_)
      refine s_move h rfl _ rfl rfl (by decide) rfl (fun a h => ?_)
      refine l_nil ?_
      exact e_thenN ⟨m - 1, by omega, k + 1, es, cl, ps, by omega, hD, by rw [hps, hkt], (h.pick [1, 2] (by decide) rfl).has (by exact ⟨rfl, rfl, rfl, rfl, trivial⟩)⟩
  · have hge : k = l.length := by have := of_decide_eq_false hb; omega
    subst hge
    rw [List.take_length] at hps
    have hlen : ps.length = (keysL l).length := by rw [← hps, List.length_map]
    refine wp_exit ?_
    refine e_thenX ?_
    refine e_thenX ?_
    refine e_blkX ?_
    refine e_thenN ?_
    refine c_rs ?_ -- region 8
    refine s_move h rfl _ rfl rfl (by decide) rfl (fun a h => ?_)
    refine s_mapLen h rfl rfl rfl (by decide) Try.underlying115 rfl 0 rfl keyM hD (fun a h => ?_)
    refine s_assign h rfl _ rfl rfl (by decide) rfl (fun a h => ?_)
    refine l_end ?_
    refine wp_ret ?_
    refine r_ret1 h rfl (rv_tmp h rfl) ⟨?_, h.m.below⟩
    rw [hlen]
end Go.Proofs.Ytlgcfnbhnpnkiaa
