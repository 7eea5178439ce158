/- The statement FieldWrites, walked. -/
import Derived.Test.YtlgcfnbhnpnkiaaField3
import Derived.Test.YtlgcfnbhnpnkiaaWordL
import Derived.Test.YtlgcfnbhnpnkiaaOpen
set_option linter.unusedVariables false
set_option linter.unusedSimpArgs false
namespace Go.Proofs.Ytlgcfnbhnpnkiaa
open Go.RowKit

/-- a field that is written -/
structure It where
  kind : Int
  n : Int
  size : Int
  b : List UInt8
def kIt : Kn It := (Kn.int.pair (Kn.int.pair (Kn.int.pair (Kn.u8.slice.pair Kn.unit)))).iso (fun x => (x.kind, x.n, x.size, x.b, ()))
theorem opens_bytes : Opens Try.prog 52 Kn.u8.slice := Opens.slice Try.underlying52 (by kernel_rfl) (by decide) (Opens.u8 Try.underlying5)
theorem opens_it : Opens Try.prog 97 kIt :=
  Opens.iso (Opens.struct (l := [(3, 1), (3, 1), (3, 1), (52, 1)]) Try.underlying97 (by kernel_rfl) (by kernel_rfl)
    (OpensF.cons rfl (Opens.int Try.underlying3) (OpensF.cons rfl (Opens.int Try.underlying3) (OpensF.cons rfl (Opens.int Try.underlying3) (OpensF.cons rfl opens_bytes OpensF.nil)))))
    _ (fun x => ⟨x.1, x.2.1, x.2.2.1, x.2.2.2.1⟩) (fun _ => rfl)
theorem opens_its : Opens Try.prog 81 kIt.slice := Opens.slice Try.underlying81 (by kernel_rfl) (by decide) opens_it
/-- an item where it lies -/
theorem it_at {w : World} {A : Option Addr} {l : List It} (h : kIt.At w A l) (i : Nat) (hi : i < l.length) : ∃ b off, A = some ⟨b, off, none⟩ ∧ b < w.heap.size ∧
    ∃ B bc, l[i].b.length ≤ bc ∧ bc ≤ maxLen ∧ Rd w B (by8 l[i].b) ∧ (-9223372036854775808 ≤ l[i].n ∧ l[i].n ≤ 9223372036854775807) ∧
    w.cell? ⟨b, off + i * 4, none⟩ = some (.int .i64 l[i].kind) ∧ w.cell? ⟨b, off + i * 4 + 1, none⟩ = some (.int .i64 l[i].n) ∧ w.cell? ⟨b, off + i * 4 + 2, none⟩ = some (.int .i64 l[i].size) ∧ w.cell? ⟨b, off + i * 4 + 3, none⟩ = some (.slice B l[i].b.length bc) := by
  obtain ⟨b, off, cs, rfl, hlt, hk, hc⟩ := h i hi
  obtain ⟨c1, r1, rfl, ⟨rfl, _, _⟩, c2, r2, rfl, ⟨rfl, hn⟩, c3, r3, rfl, ⟨rfl, _, _⟩, c4, r4, rfl, ⟨B, bc, rfl, h1, h2, h3⟩, h4⟩ := hk
  have h4' : r4 = [] := h4
  subst h4'
  have hsz : kIt.sz = 4 := rfl
  rw [hsz] at hc
  refine ⟨b, off, rfl, hlt, B, bc, h1, h2, rd_of_at h3, hn, ?_, ?_, ?_, ?_⟩
  · exact hc 0 _ rfl
  · exact hc 1 _ rfl
  · exact hc 2 _ rfl
  · exact hc 3 _ rfl
def fewB (l : List It) : Bool := (l.all fun x => decide (x.b.length ≤ 100)) && decide (l.length ≤ 30)
set_option maxRecDepth 100000 in
theorem few12_ok (w : World) (A : Option Addr) (l : List It) (c : Nat) (h : kIt.At w A l) (hc : l.length ≤ c) (hm : c ≤ maxLen) :
    Calls Try.prog 57 #[.slice A l.length c] w fun e' w' => e' = .returned (.bool (fewB l)) ∧ Below w.heap.size w w' := by
  have H := hid h
  clear h
  unfold maxLen at hm
  go_enter Try.func57, Try.ntmps57
  go_wp2
  go_loopw [7] (fun i wr => ∃ k : Nat, i = .int .i64 k ∧ k ≤ l.length ∧ Hid (Below w.heap.size w wr ∧ ∀ j (hj : j < l.length), j < k → l[j].b.length ≤ 100)) (fun i _ => l.length - (intOf i).toNat)
  case atStart => exact ⟨0, rfl, Nat.zero_le _, hid ⟨Below.refl _ _, fun j hj h => by omega⟩⟩
  case round =>
    obtain ⟨k, rfl, hk, hh⟩ := hrel
    by_cases hlt : k < l.length
    · obtain ⟨b, off, rfl, hb, B, bc, q1, q2, q3, _, d0, d1, d2, d3⟩ := it_at (H.out.below hh.out.1) k hlt
      have HQ := hid q3
      clear q3
      by_cases hl : l[k].b.length ≤ 100
      · have g : decide (100 < (l[k].b.length : Int)) = false := decide_eq_false (by omega)
        go_wp2
        go_roundw
        case rel =>
          refine ⟨k + 1, by go_num, by omega, hid ⟨below_alloc hh.out.1 _, fun j hj hjk => ?_⟩⟩
          by_cases e : j = k
          · subst e; exact hl
          · exact hh.out.2 j hj (by omega)
        case measure => simp [intOf]; omega
      · have g : decide (100 < (l[k].b.length : Int)) = true := decide_eq_true (by omega)
        go_wp2
        go_ret
        refine ⟨ret_bool ?_, below_alloc hh.out.1 _⟩
        symm
        unfold fewB
        have : (l.all fun x => decide (x.b.length ≤ 100)) = false := by
          rw [Bool.eq_false_iff]; intro ha
          rw [List.all_eq_true] at ha
          have := ha l[k] (List.getElem_mem hlt)
          simp at this; omega
        rw [this]; rfl
    · go_wp2
      go_ret
      refine ⟨ret_bool ?_, hh.out.1⟩
      have : (l.all fun x => decide (x.b.length ≤ 100)) = true := by
        rw [List.all_eq_true]; intro x hx
        obtain ⟨j, hj, rfl⟩ := List.getElem_of_mem hx
        simp; exact hh.out.2 j hj (by omega)
      unfold fewB
      rw [this]
      simp
      omega

set_option pp.maxSteps 4000
def stepS (s : WSt) (x : It) : WSt := if x.kind = 1 then numS x.n x.size s else if x.kind = 2 then bytesS x.b s else if x.kind = 3 then putS 0 x.b s else s
def stS (l : List It) : WSt := l.foldl stepS (0, [])
theorem putS_len (e : Int) (b : List UInt8) (s : WSt) : (putS e b s).2.length ≤ s.2.length + b.length := by
  unfold putS; split <;> (try split) <;> simp
theorem stepS_len (s : WSt) (x : It) (h : x.b.length ≤ 100) : (stepS s x).2.length ≤ s.2.length + 110 := by
  unfold stepS
  split
  · have h1 := putS_len (putE x.n x.size) (putL x.n x.size) s
    have := putL_length x.n x.size
    unfold numS; omega
  split
  · unfold bytesS; split <;> (try split) <;> simp [be_length] <;> omega
  split
  · have h1 := putS_len 0 x.b s; omega
  · omega
theorem stS_take (l : List It) (k : Nat) (h : k < l.length) : stS (l.take (k + 1)) = stepS (stS (l.take k)) l[k] := by
  unfold stS; rw [List.take_succ_eq_append_getElem h, List.foldl_append]; rfl
/-- two writers that are apart from each other, all of it new -/
structure Two (w : World) (B g1 g2 : Nat) (s1 s2 : WSt) : Prop where
  ex : ∃ F1 F2 : Nat → Prop, WO w F1 g1 s1 ∧ WQ w F2 g2 s2 ∧ (∀ k, F1 k → ¬ F2 k) ∧ (∀ k, F1 k → B ≤ k ∧ k < w.heap.size) ∧ (∀ k, F2 k → B ≤ k ∧ k < w.heap.size)
theorem WO.narrow {w : World} {F : Nat → Prop} {g : Nat} {s : WSt} (h : WO w F g s) : ∃ F', WO w F' g s ∧ (∀ k, F' k → F k) ∧ ∀ k, F' k → k < w.heap.size := by
  obtain ⟨v, h1, h2, h3, h4⟩ := h
  refine ⟨fun k => k = g ∨ v.ownBlock = some k, ⟨v, h1, h2, .inl rfl, fun k hk => .inr hk⟩, ?_, ?_⟩
  · rintro k (rfl | hk); exact h3; exact h4 k hk
  · rintro k (rfl | hk); exact blk_lt h1; exact (h2.lt k hk).2
theorem WQ.narrow {w : World} {F : Nat → Prop} {g : Nat} {s : WSt} (h : WQ w F g s) : ∃ F', WQ w F' g s ∧ (∀ k, F' k → F k) ∧ ∀ k, F' k → k < w.heap.size := by
  obtain ⟨v, h1, h2, h3, h4⟩ := h
  refine ⟨fun k => k = g ∨ v.ownBlock = some k, ⟨v, h1, h2, .inl rfl, fun k hk => .inr hk⟩, ?_, ?_⟩
  · rintro k (rfl | hk); exact h3; exact h4 k hk
  · rintro k (rfl | hk); exact blk_lt h1; exact (h2.lt k hk).2
/-- the first one's turn: what stays, and two are two still -/
theorem Two.turn1 {w : World} {B g1 g2 : Nat} {s1 s2 : WSt} (hB : B ≤ w.heap.size) (h : Two w B g1 g2 s1 s2) :
    ∃ F1, WO w F1 g1 s1 ∧ (∀ k, F1 k → B ≤ k ∧ k < w.heap.size) ∧ (∀ w' s1', WR w w' F1 g1 s1' → Two w' B g1 g2 s1' s2 ∧ ∀ w0, Below B w0 w → Below B w0 w') := by
  obtain ⟨F1, F2, h1, h2, hd, hF1, hF2⟩ := h.ex
  refine ⟨F1, h1, hF1, fun w' s1' hr => ?_⟩
  obtain ⟨F1', r1, r2, r3⟩ := hr
  refine ⟨?_, fun w0 hb => below_chg hb r2 hB (fun k hk => (hF1 k hk).1)⟩
  obtain ⟨F1'', n1, n2, n3⟩ := r1.narrow
  refine ⟨F1'', F2, n1, h2.chg r2 (fun k hk hk1 => hd k hk1 hk), ?_, ?_, fun k hk => ⟨(hF2 k hk).1, Nat.lt_of_lt_of_le (hF2 k hk).2 r2.size⟩⟩
  · intro k hk hk2
    rcases r3 k (n2 k hk) with h | h
    · exact hd k h hk2
    · have := (hF2 k hk2).2; omega
  · intro k hk
    refine ⟨?_, n3 k hk⟩
    rcases r3 k (n2 k hk) with h | h
    · exact (hF1 k h).1
    · omega
theorem Two.turn2 {w : World} {B g1 g2 : Nat} {s1 s2 : WSt} (hB : B ≤ w.heap.size) (h : Two w B g1 g2 s1 s2) :
    ∃ F2, WQ w F2 g2 s2 ∧ (∀ k, F2 k → B ≤ k ∧ k < w.heap.size) ∧ (∀ w' s2', QR w w' F2 g2 s2' → Two w' B g1 g2 s1 s2' ∧ ∀ w0, Below B w0 w → Below B w0 w') := by
  obtain ⟨F1, F2, h1, h2, hd, hF1, hF2⟩ := h.ex
  refine ⟨F2, h2, hF2, fun w' s2' hr => ?_⟩
  obtain ⟨F2', r1, r2, r3⟩ := hr
  refine ⟨?_, fun w0 hb => below_chg hb r2 hB (fun k hk => (hF2 k hk).1)⟩
  obtain ⟨F2'', n1, n2, n3⟩ := r1.narrow
  refine ⟨F1, F2'', h1.chg r2 (fun k hk hk1 => hd k hk hk1), n1, ?_, fun k hk => ⟨(hF1 k hk).1, Nat.lt_of_lt_of_le (hF1 k hk).2 r2.size⟩, ?_⟩
  · intro k hk hk2
    rcases r3 k (n2 k hk2) with h | h
    · exact hd k hk h
    · have := (hF1 k hk).2; omega
  · intro k hk
    refine ⟨?_, n3 k hk⟩
    rcases r3 k (n2 k hk) with h | h
    · exact (hF2 k h).1
    · omega
theorem Two.below {w w' : World} {B g1 g2 : Nat} {s1 s2 : WSt} (h : Two w B g1 g2 s1 s2) (hb : Below w.heap.size w w') : Two w' B g1 g2 s1 s2 := by
  obtain ⟨F1, F2, h1, h2, hd, hF1, hF2⟩ := h.ex
  exact ⟨F1, F2, h1.below hb, h2.below hb, hd, fun k hk => ⟨(hF1 k hk).1, Nat.lt_of_lt_of_le (hF1 k hk).2 hb.size⟩, fun k hk => ⟨(hF2 k hk).1, Nat.lt_of_lt_of_le (hF2 k hk).2 hb.size⟩⟩
theorem few_at {l : List It} (h : fewB l = true) : (∀ k (hk : k < l.length), l[k].b.length ≤ 100) ∧ l.length ≤ 30 := by
  unfold fewB at h
  rw [Bool.and_eq_true, List.all_eq_true] at h
  exact ⟨fun k hk => by simpa using h.1 l[k] (List.getElem_mem hk), by simpa using h.2⟩
set_option maxRecDepth 100000 in
theorem two_new (w : World) : Two ((w.alloc (Obj.cells #[Value.int IntKind.i64 0, Value.slice none 0 0] 126)).alloc (Obj.cells #[Value.slice none 0 0, Value.int IntKind.i64 0] 135)) w.heap.size w.heap.size (w.heap.size + 1) (0, []) (0, []) := by
  refine ⟨fun k => k = w.heap.size, fun k => k = w.heap.size + 1, ⟨.slice none 0 0, ?_, World.ownsRow_nil _ _ _ _, rfl, fun k hk => by simp [Value.ownBlock] at hk⟩, ⟨.slice none 0 0, ?_, World.ownsRow_nil _ _ _ _, rfl, fun k hk => by simp [Value.ownBlock] at hk⟩, ?_, ?_, ?_⟩
  · exact heap_alloc2_old w _ _
  · exact heap_alloc2_new w _ _
  · intro k h1 h2; omega
  · intro k h1; subst h1; simp; omega
  · intro k h1; subst h1; simp
set_option maxRecDepth 100000 in
set_option maxHeartbeats 1000000 in
theorem write12_ok (w : World) (A : Option Addr) (l : List It) (c : Nat) (h : kIt.At w A l) (hc : l.length ≤ c) (hm : c ≤ maxLen) (hf : fewB l = true) :
    Calls Try.prog 58 #[.slice A l.length c] w fun e' w' => ∃ g1 g2, e' = .returned (.tuple #[.pointer (some ⟨g1, 0, none⟩), .pointer (some ⟨g2, 0, none⟩)]) ∧ Below w.heap.size w w' ∧ Two w' w.heap.size g1 g2 (stS l) (stS l) ∧ (stS l).2.length ≤ 3300 := by
  have H := hid h
  obtain ⟨hf1, hf2⟩ := few_at hf
  have HF1 := hid hf1
  clear h hf hf1
  unfold maxLen at hm
  go_enter Try.func58, Try.ntmps58
  go_wp2
  go_loopw [14] (fun i wr => ∃ k : Nat, i = .int .i64 k ∧ k ≤ l.length ∧ Hid (Below w.heap.size w wr ∧ Two wr w.heap.size w.heap.size (w.heap.size + 1) (stS (l.take k)) (stS (l.take k)) ∧ (stS (l.take k)).2.length ≤ 110 * k)) (fun i _ => l.length - (intOf i).toNat)
  case atStart => exact ⟨0, rfl, Nat.zero_le _, hid ⟨below_alloc (below_alloc (Below.refl _ _) _) _, two_new w, by simp [stS]⟩⟩
  case round =>
    obtain ⟨k, rfl, hk, hh⟩ := hrel
    have hB := hh.out.1.size
    by_cases hlt : k < l.length
    · obtain ⟨b, off, rfl, hb, B, bc, q1, q2, q3, hn, d0, d1, d2, d3⟩ := it_at H.out k hlt
      have d0 := (hh.out.1.cell (p := ⟨b, _, none⟩) hb).trans d0
      have d1 := (hh.out.1.cell (p := ⟨b, _, none⟩) hb).trans d1
      have d2 := (hh.out.1.cell (p := ⟨b, _, none⟩) hb).trans d2
      have d3 := (hh.out.1.cell (p := ⟨b, _, none⟩) hb).trans d3
      have hl100 := HF1.out k hlt
      have hS := stS_take l k hlt
      have hSl := stepS_len (stS (l.take k)) l[k] hl100
      have HQ := hid q3
      have hsl := hh.out.2.2
      obtain ⟨F1, hwo, hF1, ht1⟩ := Two.turn1 hB hh.out.2.1
      have HS := hid hS
      have HWO := hid hwo
      have HF := hid hF1
      have HT1 := hid ht1
      clear q3 hS hwo hF1 ht1
      generalize l[k] = x at *
      obtain ⟨xk, xn, xs, xb⟩ := x
      simp only at *
      by_cases hk1 : xk = 1
      · subst hk1
        go_wp2_with fail
        refine (wnum_ok _ F1 _ _ xn xs (HWO.out.below (below_alloc (Below.refl _ _) _)) (by omega) hn).mono ?_
        rintro e w2 ⟨rfl, hr⟩
        obtain ⟨hT, hBl⟩ := HT1.out _ _ (WR.after (below_alloc (Below.refl _ _) _) hr)
        obtain ⟨F', z0, r2, z9⟩ := hr
        have hp := blk_chg (heap_alloc_new wr _) r2 (fun hF => by have := (HF.out _ hF).2; omega)
        have p0 : w2.cell? ⟨wr.heap.size, 0, none⟩ = some (.int .i64 1) := (blk_cell hp 0).trans rfl
        have p1 : w2.cell? ⟨wr.heap.size, 1, none⟩ = some (.int .i64 xn) := (blk_cell hp 1).trans rfl
        have p2 : w2.cell? ⟨wr.heap.size, 2, none⟩ = some (.int .i64 xs) := (blk_cell hp 2).trans rfl
        have p3 : w2.cell? ⟨wr.heap.size, 3, none⟩ = some (.slice B xb.length bc) := (blk_cell hp 3).trans rfl
        have HB2 := hid (hBl w hh.out.1)
        obtain ⟨F2, hwq, hF2, ht2⟩ := Two.turn2 HB2.out.size hT
        have HWQ := hid hwq
        have HFF := hid hF2
        have HT2 := hid ht2
        clear hT hBl z0 z9 r2 hp hwq hF2 ht2
        go_wp2_with fail
        refine (rnum_ok w2 F2 _ _ xn xs HWQ.out (by omega)).mono ?_
        rintro e w3 ⟨rfl, hr⟩
        obtain ⟨hT, hBl⟩ := HT2.out _ _ hr
        have HB3 := hid (hBl w HB2.out)
        have HTT := hid hT
        clear hr hT hBl p0 p1 p2 p3
        go_wp2_with fail
        go_roundw
        case rel =>
          refine ⟨k + 1, by go_num, by omega, hid ⟨HB3.out, ?_, ?_⟩⟩
          · rw [HS.out]; exact HTT.out
          · rw [HS.out]; refine Nat.le_trans hSl ?_; omega
        case measure => simp [intOf]; omega
      by_cases hk2 : xk = 2
      · subst hk2
        have hbf : ∀ a, B = some a → by8 xb ≠ [] → ¬ F1 a.block := fun a ha hne hF => by
          have h1 := rd_lt HQ.out a ha hne
          have h2 := (HF.out _ hF).1
          omega
        have HBF := hid hbf
        clear hbf
        go_wp2_with fail
        refine (wbytes_ok _ F1 _ _ B xb bc (HWO.out.below (below_alloc (Below.refl _ _) _)) ((HQ.out.below hh.out.1).below (below_alloc (Below.refl _ _) _)) HBF.out (by omega) (by omega)).mono ?_
        rintro e w2 ⟨rfl, hr⟩
        obtain ⟨hT, hBl⟩ := HT1.out _ _ (WR.after (below_alloc (Below.refl _ _) _) hr)
        obtain ⟨F', z0, r2, z9⟩ := hr
        have hp := blk_chg (heap_alloc_new wr _) r2 (fun hF => by have := (HF.out _ hF).2; omega)
        have p0 : w2.cell? ⟨wr.heap.size, 0, none⟩ = some (.int .i64 2) := (blk_cell hp 0).trans rfl
        have p1 : w2.cell? ⟨wr.heap.size, 1, none⟩ = some (.int .i64 xn) := (blk_cell hp 1).trans rfl
        have p2 : w2.cell? ⟨wr.heap.size, 2, none⟩ = some (.int .i64 xs) := (blk_cell hp 2).trans rfl
        have p3 : w2.cell? ⟨wr.heap.size, 3, none⟩ = some (.slice B xb.length bc) := (blk_cell hp 3).trans rfl
        have HB2 := hid (hBl w hh.out.1)
        obtain ⟨F2, hwq, hF2, ht2⟩ := Two.turn2 HB2.out.size hT
        have HWQ := hid hwq
        have HFF := hid hF2
        have HT2 := hid ht2
        clear hT hBl z0 z9 r2 hp hwq hF2 ht2
        go_wp2_with fail
        refine (rbytes_ok w2 F2 _ _ B xb bc HWQ.out (HQ.out.below HB2.out) (fun a ha hne hF => by have h1 := rd_lt HQ.out a ha hne; have h2 := (HFF.out _ hF).1; omega) (by omega) (by omega)).mono ?_
        rintro e w3 ⟨rfl, hr⟩
        obtain ⟨hT, hBl⟩ := HT2.out _ _ hr
        have HB3 := hid (hBl w HB2.out)
        have HTT := hid hT
        clear hr hT hBl p0 p1 p2 p3
        go_wp2_with fail
        go_roundw
        case rel =>
          refine ⟨k + 1, by go_num, by omega, hid ⟨HB3.out, ?_, ?_⟩⟩
          · rw [HS.out]; exact HTT.out
          · rw [HS.out]; refine Nat.le_trans hSl ?_; omega
        case measure => simp [intOf]; omega
      by_cases hk3 : xk = 3
      · subst hk3
        go_wp2_with fail
        refine (wfix_ok _ F1 _ _ B xb bc (HWO.out.below (below_alloc (Below.refl _ _) _)) ((HQ.out.below hh.out.1).below (below_alloc (Below.refl _ _) _)) (by omega)).mono ?_
        rintro e w2 ⟨rfl, hr⟩
        obtain ⟨hT, hBl⟩ := HT1.out _ _ (WR.after (below_alloc (Below.refl _ _) _) hr)
        obtain ⟨F', z0, r2, z9⟩ := hr
        have hp := blk_chg (heap_alloc_new wr _) r2 (fun hF => by have := (HF.out _ hF).2; omega)
        have p0 : w2.cell? ⟨wr.heap.size, 0, none⟩ = some (.int .i64 3) := (blk_cell hp 0).trans rfl
        have p1 : w2.cell? ⟨wr.heap.size, 1, none⟩ = some (.int .i64 xn) := (blk_cell hp 1).trans rfl
        have p2 : w2.cell? ⟨wr.heap.size, 2, none⟩ = some (.int .i64 xs) := (blk_cell hp 2).trans rfl
        have p3 : w2.cell? ⟨wr.heap.size, 3, none⟩ = some (.slice B xb.length bc) := (blk_cell hp 3).trans rfl
        have HB2 := hid (hBl w hh.out.1)
        obtain ⟨F2, hwq, hF2, ht2⟩ := Two.turn2 HB2.out.size hT
        have HWQ := hid hwq
        have HFF := hid hF2
        have HT2 := hid ht2
        clear hT hBl z0 z9 r2 hp hwq hF2 ht2
        go_wp2_with fail
        refine (rfix_ok w2 F2 _ _ B xb bc HWQ.out (HQ.out.below HB2.out) (by omega)).mono ?_
        rintro e w3 ⟨rfl, hr⟩
        obtain ⟨hT, hBl⟩ := HT2.out _ _ hr
        have HB3 := hid (hBl w HB2.out)
        have HTT := hid hT
        clear hr hT hBl p0 p1 p2 p3
        go_wp2_with fail
        go_roundw
        case rel =>
          refine ⟨k + 1, by go_num, by omega, hid ⟨HB3.out, ?_, ?_⟩⟩
          · rw [HS.out]; exact HTT.out
          · rw [HS.out]; refine Nat.le_trans hSl ?_; omega
        case measure => simp [intOf]; omega
      · have g1 : (xk == 1) = false := beq_eq_false_iff_ne.mpr hk1
        have g2 : (xk == 2) = false := beq_eq_false_iff_ne.mpr hk2
        have g3 : (xk == 3) = false := beq_eq_false_iff_ne.mpr hk3
        go_wp2_with fail
        go_roundw
        case rel =>
          have hs : stepS (stS (l.take k)) ⟨xk, xn, xs, xb⟩ = stS (l.take k) := by simp [stepS, hk1, hk2, hk3]
          refine ⟨k + 1, by go_num, by omega, hid ⟨below_alloc hh.out.1 _, ?_, ?_⟩⟩
          · rw [HS.out, hs]; exact hh.out.2.1.below (below_alloc (Below.refl _ _) _)
          · rw [HS.out]; refine Nat.le_trans hSl ?_; omega
        case measure => simp [intOf]; omega
    · have hkl : k = l.length := by omega
      have hh' := hh.out
      rw [hkl, List.take_of_length_le (Nat.le_refl _)] at hh'
      have HH := hid hh'
      clear hh'
      go_wp2
      go_ret2
      exact ⟨_, _, rfl, HH.out.1, HH.out.2.1, by have := HH.out.2.2; omega⟩

theorem wo_new (w : World) : WO (w.alloc (Obj.cells #[Value.int IntKind.i64 0, Value.slice none 0 0] 126)) (fun k => k = w.heap.size) w.heap.size (0, []) :=
  ⟨.slice none 0 0, heap_alloc_new w _, World.ownsRow_nil _ _ _ _, rfl, fun k hk => by simp [Value.ownBlock] at hk⟩
set_option maxRecDepth 100000 in
theorem awake12_ok (w : World) : Calls Try.prog 48 #[] w fun e w' => e = .returned (.bool true) ∧ Below w.heap.size w w' := by
  have e1 : bytesS [7] (numS 5 2 (0, [])) = (0, [0, 5, 0, 1, 7]) := by decide
  have e2 : outL (0, [0, 5, 0, 1, 7]) = [0, 5, 0, 1, 7] := by decide
  have l1 : (numS 5 2 (0, [])).2.length = 2 := by decide
  have E1 := hid e1
  have E2 := hid e2
  have L1 := hid l1
  clear e1 e2 l1
  go_enter Try.func48, Try.ntmps48
  go_wp2_with fail
  refine (wnum_ok _ _ _ _ 5 2 (wo_new w) (by simp) (by omega)).mono ?_
  rintro e w1 ⟨rfl, hr⟩
  have hb1 : Below w.heap.size w w1 := by
    obtain ⟨F', _, r2, _⟩ := hr
    exact below_chg (below_alloc (Below.refl _ _) _) r2 (le_alloc (Nat.le_refl _)) (fun k hk => by omega)
  obtain ⟨F0, q0, q2, q3⟩ := hr
  obtain ⟨F1, q1, n2, n3⟩ := q0.narrow
  have hF : ∀ k, F1 k → w.heap.size ≤ k := fun k hk => by
    rcases q3 k (n2 k hk) with h | h
    · omega
    · exact Nat.le_trans (le_alloc (Nat.le_refl _)) h
  have Q1 := hid q1
  have N3 := hid n3
  have HF := hid hF
  have HB1 := hid hb1
  clear q1 q2 q3 hb1 n2 n3 hF q0
  go_wp2_with fail
  have Q := wbytes_ok (w1.alloc (Obj.cells #[Value.int IntKind.u8 7] 5)) F1 w.heap.size _ (some ⟨w1.heap.size, 0, none⟩) [7] 1 (Q1.out.below (below_alloc (Below.refl _ _) _)) (rd_alloc _ (by8 [7]) _) (fun a ha _ hF => by
    cases ha
    have := N3.out _ hF
    simp at this) (by rw [L1.out]; omega) (by simp)
  rw [E1.out] at Q
  have Q' := hid Q
  clear Q
  refine Q'.out.mono ?_
  rintro e w2 ⟨rfl, hr⟩
  obtain ⟨F2, r1, r2, r3⟩ := hr
  have hb2 : Below w.heap.size w w2 := below_chg (below_alloc HB1.out _) r2 (le_alloc HB1.out.size) HF.out
  have R1 := hid r1
  have HB2 := hid hb2
  clear r1 r2 r3 hb2 Q'
  go_wp2_with fail
  have O := wout_ok w2 F2 w.heap.size _ R1.out (by simp)
  rw [E2.out] at O
  have O' := hid O
  clear O
  refine O'.out.mono ?_
  rintro e w3 ⟨v, rfl, hb3, hown⟩
  obtain ⟨A, c, rfl, hc, hm, hr⟩ := rd_of_own hown
  have HB3 := hid (below_step HB2.out hb3)
  have HR := hid hr
  clear hb3 hown hr O'
  go_wp2_with fail
  refine (same_b A (some ⟨w3.heap.size, 0, none⟩) [0, 5, 0, 1, 7] [0, 5, 0, 1, 7] c 5 _ (HR.out.below (below_alloc (Below.refl _ _) _)) (rd_alloc _ (by8 [0, 5, 0, 1, 7]) _) (by simp)).mono ?_
  rintro e w4 ⟨rfl, hb4⟩
  have HB4 := hid (below_step (below_alloc HB3.out _) hb4)
  clear hb4
  go_wp2_with fail
  go_ret
  exact ⟨rfl, HB4.out⟩
end Go.Proofs.Ytlgcfnbhnpnkiaa
