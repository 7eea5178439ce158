/- The document's answer for the package sha: the sum with given numbers. -/
import Derived.Test.YtcjleeclpmgbjaaDoorSha5
import Derived.Test.YtcjleeclpmgbjaaDoorRef5
set_option linter.unusedVariables false
set_option linter.unusedSimpArgs false
namespace Go.Proofs.YtcjleeclpmgbjaaDoor
open Go.RowKit

theorem absorb_rest (l : List UInt8) (s : List UInt32) (h : l.length % 64 = 0) : (absorb s l).2 = [] := by
  generalize hn : l.length = n at h
  induction n using Nat.strongRecOn generalizing l s with
  | _ n ih =>
    by_cases h64 : 64 ≤ l.length
    · rw [absorb_ge s l h64]; exact ih (l.drop 64).length (by simp; omega) _ _ rfl (by simp; omega)
    · rw [absorb_lt s l h64]; show l = []; exact List.eq_nil_of_length_eq_zero (by omega)
/-- k pieces of a text -/
def pieces (M : List UInt8) (k : Nat) : List UInt32 := (absorb beginL (M.take (64 * k))).1
theorem pieces_zero (M : List UInt8) : pieces M 0 = beginL := by unfold pieces; rw [Nat.mul_zero, List.take_zero, absorb_lt _ _ (by decide)]
theorem pieces_length (M : List UInt8) (k : Nat) : (pieces M k).length = 8 := (absorb_length _ _ rfl).1
theorem pieces_succ (M : List UInt8) (k : Nat) (h : 64 * k + 64 ≤ M.length) : pieces M (k + 1) = pieceS (pieces M k) ((M.drop (64 * k)).take 64) := by
  unfold pieces
  have e : M.take (64 * (k + 1)) = M.take (64 * k) ++ (M.drop (64 * k)).take 64 := by rw [← List.take_add, show 64 * (k + 1) = 64 * k + 64 by omega]
  have hl : ((M.drop (64 * k)).take 64).length = 64 := by simp; omega
  rw [e]
  generalize (M.drop (64 * k)).take 64 = q at hl
  rw [← absorb_append, absorb_rest _ _ (by simp; omega), List.nil_append, absorb_ge _ q (by omega), List.take_of_length_le (show q.length ≤ 64 by omega), List.drop_of_length_le (show q.length ≤ 64 by omega), absorb_lt _ _ (by decide)]
theorem bits_u32 {x y : UInt32} (h : ∀ i : Nat, x.toBitVec.getLsbD i = y.toBitVec.getLsbD i) : x = y := UInt32.toBitVec_inj.1 (BitVec.eq_of_getLsbD_eq (fun i _ => h i))
theorem ch_eq (e f g : UInt32) : (e &&& f) ^^^ (~~~e &&& g) = (e &&& f ||| ~~~e &&& g) := by
  refine bits_u32 fun i => ?_
  simp only [UInt32.toBitVec_xor, UInt32.toBitVec_and, UInt32.toBitVec_or, UInt32.toBitVec_not, BitVec.getLsbD_xor, BitVec.getLsbD_and, BitVec.getLsbD_or, BitVec.getLsbD_not]
  cases e.toBitVec.getLsbD i <;> cases f.toBitVec.getLsbD i <;> cases g.toBitVec.getLsbD i <;> cases decide (i < 32) <;> rfl
theorem maj_eq (a b c : UInt32) : (a &&& b) ^^^ (a &&& c) ^^^ (b &&& c) = (a &&& b ||| a &&& c ||| b &&& c) := by
  refine bits_u32 fun i => ?_
  simp only [UInt32.toBitVec_xor, UInt32.toBitVec_and, UInt32.toBitVec_or, BitVec.getLsbD_xor, BitVec.getLsbD_and, BitVec.getLsbD_or]
  cases a.toBitVec.getLsbD i <;> cases b.toBitVec.getLsbD i <;> cases c.toBitVec.getLsbD i <;> rfl
theorem U_sub (y : UInt32) : IntKind.u32.wrap (4294967295 - U y) = U (~~~ y) := by rw [U_not, nwu32 (by have := U_range (~~~ y); omega)]
theorem U_wd' (P : List UInt8) (k : Nat) : IntKind.u32.wrap ((num ((P.drop (4 * k)).take 4) % 18446744073709551616 : Nat) : Int) = U (wd P k) := by
  rw [← wd_toNat]
  have h1 := num_lt ((P.drop (4 * k)).take 4)
  have h2 : ((P.drop (4 * k)).take 4).length ≤ 4 := by simp; omega
  have h3 : 256 ^ ((P.drop (4 * k)).take 4).length ≤ 256 ^ 4 := Nat.pow_le_pow_right (by decide) h2
  have h4 : (256 : Nat) ^ 4 = 4294967296 := by decide
  rw [Nat.mod_eq_of_lt (by omega), nwu32 (by omega)]
theorem be4 (x : UInt32) : by8 (be 4 x.toNat) = [.int .u8 (IntKind.u8.wrap (U x / 16777216)), .int .u8 (IntKind.u8.wrap (U x / 65536 % 256)), .int .u8 (IntKind.u8.wrap (U x / 256 % 256)), .int .u8 (IntKind.u8.wrap (U x % 256))] := by
  simp only [be, by8, byc, List.map_cons, List.map_nil, IntKind.wrap_u8, U, UInt8.toNat_ofNat']
  have := x.toNat_lt
  simp only [List.cons.injEq, Value.int.injEq, true_and, and_true]
  refine ⟨?_, ?_, ?_, ?_⟩ <;> omega
theorem splice_cons (cs : List Value) (off : Nat) (a : Value) (l : List Value) (h : off < cs.length) : splice cs off (a :: l) = splice (cs.set off a) (off + 1) l := by
  unfold splice
  rw [List.take_succ_eq_append_getElem (by simpa using h), List.take_set_of_le (Nat.le_refl _), List.drop_set_of_lt (by omega)]
  simp; congr 1; omega
theorem splice_nil (cs : List Value) (off : Nat) : splice cs off [] = cs := by unfold splice; simp
theorem outK_sets (s : List UInt32) (k : Nat) (hs : s.length = 8) (hk : k < 8) (a b c d : Value) (h : by8 (be 4 (s.getD k 0).toNat) = [a, b, c, d]) :
    ((((by8 (outK s k)).set (4 * k) a).set (4 * k + 1) b).set (4 * k + 2) c).set (4 * k + 3) d = by8 (outK s (k + 1)) := by
  have hl : (by8 (outK s k)).length = 32 := by rw [by8_length, outK_length _ _ hs (by omega)]
  rw [← outK_step s k hs hk, h, splice_cons _ _ _ _ (by omega), splice_cons _ _ _ _ (by simp; omega), splice_cons _ _ _ _ (by simp; omega), splice_cons _ _ _ _ (by simp; omega), splice_nil]
end Go.Proofs.YtcjleeclpmgbjaaDoor
