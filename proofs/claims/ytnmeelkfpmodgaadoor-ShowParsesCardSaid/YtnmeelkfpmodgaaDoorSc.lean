/- strings.Cut and strings.Split: the shelf's contracts (laid at this program) in xt.py's form. -/
import Derived.Test.YtnmeelkfpmodgaaDoorGl
import Derived.Test.YtnmeelkfpmodgaaDoorRb
import Derived.Test.YtnmeelkfpmodgaaDoorPj
import Derived.Test.YtnmeelkfpmodgaaDoorPs
import Derived.Shelf.Strings.Cut
import Derived.Shelf.Strings.Split
import Derived.Test.YtnmeelkfpmodgaaDoorProg
set_option linter.unusedVariables false
set_option linter.unusedSimpArgs false
namespace Go.Proofs.YtnmeelkfpmodgaaDoor
open Go.RowKit
section
open Go.Shelf
def lays145_ren : Go.Shelf.Ren := ⟨fun | 145 => 43 | 220 => 55 | 219 => 65 | 217 => 72 | 225 => 73 | 224 => 74 | 267 => 75 | 266 => 78 | 314 => 79 | n => n, fun | 9 => 9 | 4 => 4 | 59 => 84 | 3 => 3 | 5 => 5 | 46 => 74 | 146 => 93 | 51 => 92 | n => n, fun | 1 => 1 | n => n⟩
theorem lays145 : Go.Proofs.Lays.n145 Tryd.prog lays145_ren := {
  mixed := by kernel_rfl
  f145 := Tryd.func43.trans (congrArg some (by kernel_rfl))
  f217 := Tryd.func72.trans (congrArg some (by kernel_rfl))
  f219 := Tryd.func65.trans (congrArg some (by kernel_rfl))
  f220 := Tryd.func55.trans (congrArg some (by kernel_rfl))
  f224 := Tryd.func74.trans (congrArg some (by kernel_rfl))
  f225 := Tryd.func73.trans (congrArg some (by kernel_rfl))
  f266 := Tryd.func78.trans (congrArg some (by kernel_rfl))
  f267 := Tryd.func75.trans (congrArg some (by kernel_rfl))
  f314 := Tryd.func79.trans (congrArg some (by kernel_rfl))
  t3 := Tryd.underlying3
  a3 := Tryd.isAgg3
  z3 := Tryd.sizeOf3
  v3 := Tryd.zeroValue3
  t4 := Tryd.underlying4
  a4 := Tryd.isAgg4
  z4 := Tryd.sizeOf4
  v4 := Tryd.zeroValue4
  t5 := Tryd.underlying5
  a5 := Tryd.isAgg5
  z5 := Tryd.sizeOf5
  v5 := Tryd.zeroValue5
  t9 := Tryd.underlying9
  a9 := Tryd.isAgg9
  z9 := Tryd.sizeOf9
  v9 := Tryd.zeroValue9
  t46 := Tryd.underlying74
  a46 := Tryd.isAgg74
  z46 := Tryd.sizeOf74
  v46 := Tryd.zeroValue74
  t51 := Tryd.underlying92
  a51 := Tryd.isAgg92
  z51 := Tryd.sizeOf92
  v51 := Tryd.zeroValue92
  t59 := Tryd.underlying84
  a59 := Tryd.isAgg84
  z59 := Tryd.sizeOf84
  v59 := Tryd.zeroValue84
  t146 := Tryd.underlying93
  a146 := Tryd.isAgg93
  z146 := Tryd.sizeOf93
  v146 := Tryd.zeroValue93
  g1 := by kernel_rfl }
def lays146_ren : Go.Shelf.Ren := ⟨fun | 146 => 31 | 221 => 42 | 268 => 52 | 138 => 53 | 143 => 54 | 195 => 62 | 197 => 63 | 218 => 64 | 219 => 65 | 260 => 71 | 217 => 72 | 225 => 73 | 224 => 74 | 267 => 75 | 266 => 78 | 314 => 79 | n => n, fun | 9 => 9 | 31 => 39 | 3 => 3 | 4 => 4 | 0 => 0 | 105 => 108 | 21 => 21 | 5 => 5 | 46 => 74 | 119 => 118 | 139 => 121 | 138 => 120 | 146 => 93 | 51 => 92 | n => n, fun | 1 => 1 | 3 => 2 | 4 => 3 | n => n⟩
theorem lays146 : Go.Proofs.Lays.n146 Tryd.prog lays146_ren := {
  mixed := by kernel_rfl
  f138 := Tryd.func53.trans (congrArg some (by kernel_rfl))
  f143 := Tryd.func54.trans (congrArg some (by kernel_rfl))
  f146 := Tryd.func31.trans (congrArg some (by kernel_rfl))
  f195 := Tryd.func62.trans (congrArg some (by kernel_rfl))
  f197 := Tryd.func63.trans (congrArg some (by kernel_rfl))
  f217 := Tryd.func72.trans (congrArg some (by kernel_rfl))
  f218 := Tryd.func64.trans (congrArg some (by kernel_rfl))
  f219 := Tryd.func65.trans (congrArg some (by kernel_rfl))
  f221 := Tryd.func42.trans (congrArg some (by kernel_rfl))
  f224 := Tryd.func74.trans (congrArg some (by kernel_rfl))
  f225 := Tryd.func73.trans (congrArg some (by kernel_rfl))
  f260 := Tryd.func71.trans (congrArg some (by kernel_rfl))
  f266 := Tryd.func78.trans (congrArg some (by kernel_rfl))
  f267 := Tryd.func75.trans (congrArg some (by kernel_rfl))
  f268 := Tryd.func52.trans (congrArg some (by kernel_rfl))
  f314 := Tryd.func79.trans (congrArg some (by kernel_rfl))
  t0 := Tryd.underlying0
  a0 := Tryd.isAgg0
  z0 := Tryd.sizeOf0
  v0 := Tryd.zeroValue0
  t3 := Tryd.underlying3
  a3 := Tryd.isAgg3
  z3 := Tryd.sizeOf3
  v3 := Tryd.zeroValue3
  t4 := Tryd.underlying4
  a4 := Tryd.isAgg4
  z4 := Tryd.sizeOf4
  v4 := Tryd.zeroValue4
  t5 := Tryd.underlying5
  a5 := Tryd.isAgg5
  z5 := Tryd.sizeOf5
  v5 := Tryd.zeroValue5
  t9 := Tryd.underlying9
  a9 := Tryd.isAgg9
  z9 := Tryd.sizeOf9
  v9 := Tryd.zeroValue9
  t21 := Tryd.underlying21
  a21 := Tryd.isAgg21
  z21 := Tryd.sizeOf21
  v21 := Tryd.zeroValue21
  t31 := Tryd.underlying39
  a31 := Tryd.isAgg39
  z31 := Tryd.sizeOf39
  v31 := Tryd.zeroValue39
  t46 := Tryd.underlying74
  a46 := Tryd.isAgg74
  z46 := Tryd.sizeOf74
  v46 := Tryd.zeroValue74
  t51 := Tryd.underlying92
  a51 := Tryd.isAgg92
  z51 := Tryd.sizeOf92
  v51 := Tryd.zeroValue92
  t105 := Tryd.underlying108
  a105 := Tryd.isAgg108
  z105 := Tryd.sizeOf108
  v105 := Tryd.zeroValue108
  t119 := Tryd.underlying118
  a119 := Tryd.isAgg118
  z119 := Tryd.sizeOf118
  t138 := Tryd.underlying120
  a138 := Tryd.isAgg120
  z138 := Tryd.sizeOf120
  v138 := Tryd.zeroValue120
  t139 := Tryd.underlying121
  a139 := Tryd.isAgg121
  z139 := Tryd.sizeOf121
  v139 := Tryd.zeroValue121
  t146 := Tryd.underlying93
  a146 := Tryd.isAgg93
  z146 := Tryd.sizeOf93
  v146 := Tryd.zeroValue93
  g1 := by kernel_rfl
  g3 := by kernel_rfl
  g4 := by kernel_rfl }
end
theorem below_drew (w : World) (n : Nat) : Below w.heap.size w (w.drewN n) := ⟨rfl, rfl, rfl, by simp [World.drewN], fun k hk => by simp [World.drewN]⟩
def strings_Cut (Fu : Nat) (a0 a1 : List UInt8) : Option (List UInt8 × List UInt8 × Bool) := if a0.length < 4294967281 then some (Lib.cut a0 a1) else none
theorem cut_len1 (a b : List UInt8) : (Lib.cut a b).1.length ≤ a.length ∧ (Lib.cut a b).2.1.length ≤ a.length := by
  unfold Lib.cut
  split
  · simp; omega
  · simp
theorem strings_Cut_ok (Fu : Nat) {S0 : Snap} (hGL : GL S0) (a0 : List UInt8) (hra0 : a0.length ≤ maxLen) (a1 : List UInt8) (hra1 : a1.length ≤ maxLen) (r : List UInt8 × List UInt8 × Bool) (hf : strings_Cut Fu a0 a1 = some r) (w0 : World) (hm : Mem w0 (ownL ([] ++ [.sn S0])) ([] ++ [.sn S0]) w0) :
    Calls Tryd.prog 43 #[.string (sb a0), .string (sb a1)] w0 (Ret w0 S0 [] (fun v L1 S1 => v = .tuple #[.string (sb r.1), .string (sb r.2.1), .bool r.2.2] ∧ L1 = [] ∧ r.1.length ≤ maxLen ∧ r.2.1.length ≤ maxLen ∧ True)) := by
  unfold strings_Cut at hf
  split at hf
  · rename_i hc
    obtain rfl := Option.some.inj hf
    obtain ⟨⟨m, hmx⟩, _⟩ := hGL w0 (hm.snOK (i := 0) rfl)
    refine (Go.Proofs.Any.strings_Cut lays145 (sb a0) (sb a1) m w0 (by simpa [sb, ByteArray.size] using hc) hmx).mono ?_
    rintro e w' ⟨he, n, rfl⟩
    have hl := cut_len1 a0 a1
    refine ret_below hm he (below_drew w0 n) ⟨?_, rfl, Nat.le_trans hl.1 hra0, Nat.le_trans hl.2 hra0, trivial⟩
    simp [sb]
  · cases hf
def strings_Split (Fu : Nat) (a0 a1 : List UInt8) : Option (List (List UInt8)) :=
  if a0.length < 4294967281 ∧ 1 ≤ a1.length then some (Lib.split a0 a1) else none
theorem splitK_le (sep : List UInt8) (n : Nat) : ∀ (k : Nat) (s : List UInt8), s.length ≤ n → ∀ x ∈ Lib.splitK sep 0 k s, x.length ≤ n
  | 0, s, h, x, hx => by simp only [Lib.splitK, List.mem_singleton] at hx; subst hx; exact h
  | k + 1, s, h, x, hx => by
    rw [Lib.splitK] at hx
    split at hx
    · simp only [List.mem_singleton] at hx; subst hx; exact h
    · rcases List.mem_cons.1 hx with rfl | hx
      · rw [List.length_take]; omega
      · exact splitK_le sep n k _ (by rw [List.length_drop]; omega) x hx
theorem reps_str (S : Snap) : ∀ (xs : List (List UInt8)), (∀ x ∈ xs, x.length ≤ maxLen) → reps tyS S (xs.map fun l => Value.string (sb l)) xs
  | [], _ => rfl
  | x :: xs, h => ⟨[.string (sb x)], xs.map fun l => Value.string (sb l), rfl, ⟨rfl, h x (List.mem_cons_self ..)⟩, reps_str S xs fun y hy => h y (List.mem_cons_of_mem _ hy)⟩
theorem strings_Split_ok (Fu : Nat) {S0 : Snap} (hGL : GL S0) (a0 : List UInt8) (hra0 : a0.length ≤ maxLen) (a1 : List UInt8) (hra1 : a1.length ≤ maxLen) (r : List (List UInt8)) (hf : strings_Split Fu a0 a1 = some r) (w0 : World) (hm : Mem w0 (ownL ([] ++ [.sn S0])) ([] ++ [.sn S0]) w0) :
    Calls Tryd.prog 31 #[.string (sb a0), .string (sb a1)] w0 (Ret w0 S0 [] (fun v L1 S1 => ∃ (A : Option Addr), ∃ (c : Nat), ∃ (cs : List Value), v = .slice A r.length c ∧ L1 = [.row (.slice A r.length c) 9 1 r.length cs] ∧ reps tyS S1 cs r ∧ True)) := by
  unfold strings_Split at hf
  split at hf
  · rename_i hc
    obtain rfl := Option.some.inj hf
    obtain ⟨⟨m, hmx⟩, _⟩ := hGL w0 (hm.snOK (i := 0) rfl)
    refine (Go.Proofs.Any.strings_Split lays146 (by kernel_rfl) (sb a0) (sb a1) m w0 (by simpa [sb, ByteArray.size] using hc.1) hmx (by simpa [sb, ByteArray.size] using hc.2)).mono ?_
    rintro e w' ⟨he, hw⟩
    have hdat := Lib.splitB_data (sb a1) 0 (Lib.countB (sb a0) (sb a1)) (sb a0)
    have hlen := Lib.splitB_all (sb a1) (by simpa [sb, ByteArray.size] using hc.2) 0 _ (sb a0) rfl
    have e1 : ∀ l : List UInt8, (sb l).data.toList = l := fun l => by simp [sb]
    rw [e1, e1] at hdat
    have e2 : Lib.splitK a1 0 (Lib.countB (sb a0) (sb a1)) a0 = Lib.split a0 a1 := by unfold Lib.split Lib.countB; rw [e1, e1]
    rw [e2] at hdat
    have hl : (Lib.split a0 a1).length = Lib.countB (sb a0) (sb a1) + 1 := by rw [← hdat, List.length_map, hlen]
    have hbl : ∀ b : ByteArray, sb b.data.toList = b := fun b => by simp [sb]
    have hcs : (Lib.splitB (sb a1) 0 (Lib.countB (sb a0) (sb a1)) (sb a0)).map Value.string = (Lib.split a0 a1).map fun l => Value.string (sb l) := by
      rw [← hdat, List.map_map]
      refine List.map_congr_left fun b _ => ?_
      simp only [Function.comp_apply, hbl]
    have hle : ∀ x ∈ Lib.split a0 a1, x.length ≤ maxLen := fun x hx => splitK_le a1 maxLen _ a0 hra0 x hx
    have hcount : Lib.countB (sb a0) (sb a1) + 1 ≤ maxLen := by
      have := Lib.countB_le (sb a1) (by simpa [sb, ByteArray.size] using hc.2) (sb a0).size (sb a0) (Nat.le_refl _)
      have hs : (sb a0).size = a0.length := by simp [sb, ByteArray.size]
      rw [hs] at this
      unfold maxLen; omega
    rw [hcs] at hw
    rw [← hl] at he
    have hB : Below w0.heap.size w0 w' := by rw [hw]; exact (Below.refl _ _).alloc (Nat.le_refl _) _
    have hM := hm.addNewS (E := 9) (sz := 1) (n := (Lib.split a0 a1).length) (v := .slice (some ⟨w0.heap.size, 0, none⟩) (Lib.split a0 a1).length (Lib.split a0 a1).length) (cs := (Lib.split a0 a1).map fun l => Value.string (sb l)) ⟨hB, by simp, .inr ⟨w0.heap.size, (Lib.split a0 a1).length, ((Lib.split a0 a1).map fun l => Value.string (sb l)).toArray, rfl, Nat.le_refl _, by rw [hw]; exact heap_alloc_new w0 _, Nat.le_refl _, by omega, by simp, by rw [Nat.mul_one]; exact List.take_of_length_le (by simp)⟩⟩
    exact ⟨_, [_], S0, he, ⟨_, _, _, rfl, rfl, reps_str _ _ hle, trivial⟩, rfl, Up.refl _ _ _, hM⟩
  · cases hf
end Go.Proofs.YtnmeelkfpmodgaaDoor
