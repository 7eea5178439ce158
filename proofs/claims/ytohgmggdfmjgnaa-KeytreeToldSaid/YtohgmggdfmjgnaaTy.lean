/- Texts put together. -/
import Derived.Test.YtohgmggdfmjgnaaPc
import Derived.Test.YtohgmggdfmjgnaaArr
import Derived.Test.YtohgmggdfmjgnaaApp
set_option linter.unusedVariables false
set_option linter.unusedSimpArgs false
namespace Go.Proofs.Ytohgmggdfmjgnaa
open Go.RowKit
section
section
theorem ret_below {w0 w' : World} {S0 : Snap} {Rs : Value → List Ch → Snap → Prop} {e : Ending} {v : Value} (hm : Mem w0 (ownL ([] ++ [.sn S0])) ([] ++ [.sn S0]) w0) (he : e = .returned v) (hb : Below w0.heap.size w0 w') (hR : Rs v [] S0) : Ret w0 S0 [] Rs e w' :=
  ⟨v, [], S0, he, hR, rfl, Up.refl _ _ _, hm.ext hb⟩
end
section

/-- a number of 32 bits, as Go's number -/
def U (x : UInt32) : Int := (x.toNat : Int)
theorem U_range (x : UInt32) : 0 ≤ U x ∧ U x < 4294967296 := by unfold U; have := x.toNat_lt; omega
theorem U_add (x y : UInt32) : IntKind.u32.wrap (U x + U y) = U (x + y) := by
  unfold U; rw [IntKind.wrap_u32, UInt32.toNat_add]; omega
theorem U_xor (x y : UInt32) : bits .xor .u32 (U x) (U y) = U (x ^^^ y) := by
  unfold U; rw [u32_xor_nat _ _ x.toNat_lt y.toNat_lt, UInt32.toNat_xor]
theorem U_and (x y : UInt32) : bits .and .u32 (U x) (U y) = U (x &&& y) := by
  unfold U; rw [u32_and_nat _ _ x.toNat_lt y.toNat_lt, UInt32.toNat_and]
theorem U_or (x y : UInt32) : bits .or .u32 (U x) (U y) = U (x ||| y) := by
  unfold U; rw [u32_or_nat _ _ x.toNat_lt y.toNat_lt, UInt32.toNat_or]
theorem U_shr3 (x : UInt32) : U x / 8 = U (x >>> 3) := by
  unfold U; rw [UInt32.toNat_shiftRight, Nat.shiftRight_eq_div_pow]; simp
theorem U_shr10 (x : UInt32) : U x / 1024 = U (x >>> 10) := by
  unfold U; rw [UInt32.toNat_shiftRight, Nat.shiftRight_eq_div_pow]; simp
theorem U_not (x : UInt32) : 4294967295 - U x = U (~~~ x) := by
  unfold U; rw [UInt32.toNat_not]; have := x.toNat_lt; simp; omega
theorem rot_ok (x : UInt32) (n : Int) (k : Nat) (w : World) (hn : -9223372036854775808 ≤ n ∧ n ≤ 9223372036854775807) (hk : (n % 32).toNat = k) :
    Calls Try.prog 89 #[.int .u32 (U x), .int .i64 n] w fun e w' => e = .returned (.int .u32 (U (rotr x k))) ∧ w' = w := by
  subst hk; exact rotate_ok x n w hn
def turnsS (x : UInt32) (a b c : Nat) : UInt32 := rotr x a ^^^ rotr x b ^^^ rotr x c
theorem turns_ok (x : UInt32) (a b c : Nat) (ha : a < 32) (hb : b < 32) (hc : c < 32) (w : World) :
    Calls Try.prog 107 #[.int .u32 (U x), .int .i64 (a : Int), .int .i64 (b : Int), .int .i64 (c : Int)] w fun e w' => e = .returned (.int .u32 (U (turnsS x a b c))) ∧ w' = w := by
  have e1 := U_xor
  go_enter Try.func107, Try.ntmps107
  go_wp2_with (go_at_call 89; refine (rot_ok _ _ _ _ (by omega) rfl).mono ?_; rintro e w' ⟨rfl, rfl⟩)
  go_ret
  exact ⟨ret_int (by simp only [turnsS]; rw [Nat.mod_eq_of_lt ha, Nat.mod_eq_of_lt hb, Nat.mod_eq_of_lt hc]), rfl⟩
/-- words as cells, as an array -/
def uc (x : UInt32) : Value := .int .u32 (U x)
def ucs (l : List UInt32) : List Value := l.map uc
theorem ucs_length (l : List UInt32) : (ucs l).length = l.length := by simp [ucs]
theorem ucs_one (l : List UInt32) : ∀ u ∈ ucs l, u.oneCell' = true := by
  intro u hu; simp [ucs] at hu; obtain ⟨b, _, rfl⟩ := hu; rfl
def kindsL : List UInt32 := [0x428a2f98, 0x71374491, 0xb5c0fbcf, 0xe9b5dba5, 0x3956c25b, 0x59f111f1, 0x923f82a4, 0xab1c5ed5,
  0xd807aa98, 0x12835b01, 0x243185be, 0x550c7dc3, 0x72be5d74, 0x80deb1fe, 0x9bdc06a7, 0xc19bf174,
  0xe49b69c1, 0xefbe4786, 0x0fc19dc6, 0x240ca1cc, 0x2de92c6f, 0x4a7484aa, 0x5cb0a9dc, 0x76f988da,
  0x983e5152, 0xa831c66d, 0xb00327c8, 0xbf597fc7, 0xc6e00bf3, 0xd5a79147, 0x06ca6351, 0x14292967,
  0x27b70a85, 0x2e1b2138, 0x4d2c6dfc, 0x53380d13, 0x650a7354, 0x766a0abb, 0x81c2c92e, 0x92722c85,
  0xa2bfe8a1, 0xa81a664b, 0xc24b8b70, 0xc76c51a3, 0xd192e819, 0xd6990624, 0xf40e3585, 0x106aa070,
  0x19a4c116, 0x1e376c08, 0x2748774c, 0x34b0bcb5, 0x391c0cb3, 0x4ed8aa4a, 0x5b9cca4f, 0x682e6ff3,
  0x748f82ee, 0x78a5636f, 0x84c87814, 0x8cc70208, 0x90befffa, 0xa4506ceb, 0xbef9a3f7, 0xc67178f2]
def beginL : List UInt32 := [0x6a09e667, 0xbb67ae85, 0x3c6ef372, 0xa54ff53a, 0x510e527f, 0x9b05688c, 0x1f83d9ab, 0x5be0cd19]
set_option maxRecDepth 1000000 in
theorem kinds_ok (w : World) : Calls Try.prog 96 #[] w fun e w' => e = .returned (.agg (ucs kindsL).toArray) ∧ Below w.heap.size w w' := by
  go_enter Try.func96, Try.ntmps96
  iterate 11 go_step
  refine bld_op rfl 126 _ rfl ((List.range 64).zip (ucs kindsL)) (by kernel_rfl) (ucs kindsL).toArray (by kernel_rfl) ?_
  refine st_op rfl 126 _ _ rfl w.heap.size 0 (ucs kindsL) rfl rfl (n := 64) ⟨_, Try.underlying126, rfl, by kernel_rfl⟩ rfl (ucs_one _) (there_new w (List.replicate 64 (Value.int .u32 0)) _) ?_
  iterate 4 go_step
  have hcs : ((w.alloc (.cells (List.replicate 64 (Value.int .u32 0)).toArray 126)).setCells w.heap.size 0 (ucs kindsL)).rangeAt w.heap.size 0 (ucs kindsL) := World.rangeAt_setCells_same _ _ _ _ (there_new w (List.replicate 64 (Value.int .u32 0)) _)
  refine bodyPost_ret (v := .agg (ucs kindsL).toArray) (results_agg rfl _ _ w.heap.size 0 rfl (n := 64) ⟨_, Try.underlying126, rfl, by kernel_rfl⟩ (ucs kindsL) rfl hcs) rfl ⟨rfl, ?_⟩
  have hk := (Chg.of_below (below_alloc (Below.refl w.heap.size w) (.cells (List.replicate 64 (Value.int .u32 0)).toArray 126)) (fun k => w.heap.size ≤ k)).setCells (b := w.heap.size) (.inl (Nat.le_refl _)) (ucs kindsL) 0
  exact ⟨hk.os, hk.tape, hk.output, hk.size, fun k hlt => hk.block k hlt (by omega)⟩
theorem begin_ok (w : World) : Calls Try.prog 97 #[] w fun e w' => e = .returned (.agg (ucs beginL).toArray) ∧ Below w.heap.size w w' := by
  go_enter Try.func97, Try.ntmps97
  go_wp2
  refine bodyPost_ret (v := .agg (ucs beginL).toArray) (results_agg rfl _ _ w.heap.size 0 rfl ⟨_, Try.underlying128, rfl, by kernel_rfl⟩ (ucs beginL) rfl ?_) rfl ⟨rfl, below_alloc (Below.refl _ _) _⟩
  exact range_new w (ucs beginL) _
/-- a piece's word -/
def wd (p : List UInt8) (k : Nat) : UInt32 := UInt32.ofNat (num ((p.drop (4 * k)).take 4))
def s0 (x : UInt32) : UInt32 := rotr x 7 ^^^ rotr x 18 ^^^ x >>> 3
def s1 (x : UInt32) : UInt32 := rotr x 17 ^^^ rotr x 19 ^^^ x >>> 10
def nextW (p : List UInt8) (w : List UInt32) : UInt32 := if w.length < 16 then wd p w.length else
  w.getD (w.length - 16) 0 + s0 (w.getD (w.length - 15) 0) + w.getD (w.length - 7) 0 + s1 (w.getD (w.length - 2) 0)
def sched (p : List UInt8) : Nat → List UInt32
  | 0 => []
  | k + 1 => sched p k ++ [nextW p (sched p k)]
theorem sched_length (p : List UInt8) (k : Nat) : (sched p k).length = k := by
  induction k with
  | zero => rfl
  | succ k ih => simp [sched, ih]
/-- the array, k words of which are there -/
def schedC (p : List UInt8) (k : Nat) : List Value := ucs (sched p k) ++ List.replicate (64 - k) (.int .u32 0)
theorem schedC_get (p : List UInt8) (k j : Nat) (h : j < k) : (schedC p k)[j]? = some (.int .u32 (U ((sched p k).getD j 0))) := by
  have hl := sched_length p k
  unfold schedC
  rw [List.getElem?_append_left (by rw [ucs_length, hl]; exact h)]
  simp [ucs, uc, hl, h, List.getD_eq_getElem?_getD]
theorem schedC_set (p : List UInt8) (k : Nat) (h : k < 64) : (schedC p k).set k (.int .u32 (U (nextW p (sched p k)))) = schedC p (k + 1) := by
  have hl := sched_length p k
  unfold schedC
  obtain ⟨m, hm⟩ : ∃ m, 64 - k = m + 1 := ⟨63 - k, by omega⟩
  have hm2 : 64 - (k + 1) = m := by omega
  rw [hm, hm2, List.set_append_right _ _ (by rw [ucs_length, hl]; exact Nat.le_refl _), ucs_length, hl]
  simp [List.replicate_succ, sched, ucs, uc]
end
end
section
theorem sz_A16_uint8 : (Try.prog.info? 79).map (·.size) = some 16 := by kernel_rfl
theorem zi_A16_uint8 : (Try.prog.info? 79).map (fun i => (i.zero, i.size)) = some (some (.agg #[.int .u8 0, .int .u8 0, .int .u8 0, .int .u8 0, .int .u8 0, .int .u8 0, .int .u8 0, .int .u8 0, .int .u8 0, .int .u8 0, .int .u8 0, .int .u8 0, .int .u8 0, .int .u8 0, .int .u8 0, .int .u8 0]), 16) := by kernel_rfl
theorem ag_A16_uint8 : Agg Try.prog 79 16 := ⟨_, Try.underlying79, rfl, sz_A16_uint8⟩
theorem zi_A256_bool : (Try.prog.info? 118).map (fun i => (i.zero, i.size)) = some (some (.agg (List.replicate 256 (.bool false)).toArray), 256) := by kernel_rfl
theorem sz_A256_uint8 : (Try.prog.info? 93).map (·.size) = some 256 := by kernel_rfl
theorem zi_A256_uint8 : (Try.prog.info? 93).map (fun i => (i.zero, i.size)) = some (some (.agg (List.replicate 256 (.int .u8 0)).toArray), 256) := by kernel_rfl
theorem ag_A256_uint8 : Agg Try.prog 93 256 := ⟨_, Try.underlying93, rfl, sz_A256_uint8⟩
theorem sz_A32_uint8 : (Try.prog.info? 84).map (·.size) = some 32 := by kernel_rfl
theorem zi_A32_uint8 : (Try.prog.info? 84).map (fun i => (i.zero, i.size)) = some (some (.agg (List.replicate 32 (.int .u8 0)).toArray), 32) := by kernel_rfl
theorem ag_A32_uint8 : Agg Try.prog 84 32 := ⟨_, Try.underlying84, rfl, sz_A32_uint8⟩
theorem zi_A4_uint8 : (Try.prog.info? 134).map (fun i => (i.zero, i.size)) = some (some (.agg #[.int .u8 0, .int .u8 0, .int .u8 0, .int .u8 0]), 4) := by kernel_rfl
theorem sz_A64_uint32 : (Try.prog.info? 126).map (·.size) = some 64 := by kernel_rfl
theorem zi_A64_uint32 : (Try.prog.info? 126).map (fun i => (i.zero, i.size)) = some (some (.agg (List.replicate 64 (.int .u32 0)).toArray), 64) := by kernel_rfl
theorem ag_A64_uint32 : Agg Try.prog 126 64 := ⟨_, Try.underlying126, rfl, sz_A64_uint32⟩
theorem sz_A64_uint8 : (Try.prog.info? 112).map (·.size) = some 64 := by kernel_rfl
theorem zi_A64_uint8 : (Try.prog.info? 112).map (fun i => (i.zero, i.size)) = some (some (.agg (List.replicate 64 (.int .u8 0)).toArray), 64) := by kernel_rfl
theorem ag_A64_uint8 : Agg Try.prog 112 64 := ⟨_, Try.underlying112, rfl, sz_A64_uint8⟩
theorem sz_A8_uint32 : (Try.prog.info? 128).map (·.size) = some 8 := by kernel_rfl
theorem zi_A8_uint32 : (Try.prog.info? 128).map (fun i => (i.zero, i.size)) = some (some (.agg #[.int .u32 0, .int .u32 0, .int .u32 0, .int .u32 0, .int .u32 0, .int .u32 0, .int .u32 0, .int .u32 0]), 8) := by kernel_rfl
theorem ag_A8_uint32 : Agg Try.prog 128 8 := ⟨_, Try.underlying128, rfl, sz_A8_uint32⟩
theorem sz_SSuint8 : (Try.prog.info? 24).map (·.size) = some 1 := by kernel_rfl
theorem zi_SSuint8 : (Try.prog.info? 24).map (fun i => (i.zero, i.size)) = some (some (.slice none 0 0), 1) := by kernel_rfl
theorem sz_Sint : (Try.prog.info? 51).map (·.size) = some 1 := by kernel_rfl
theorem zi_Sint : (Try.prog.info? 51).map (fun i => (i.zero, i.size)) = some (some (.slice none 0 0), 1) := by kernel_rfl
theorem sz_Suint32 : (Try.prog.info? 95).map (·.size) = some 1 := by kernel_rfl
theorem sz_Suint8 : (Try.prog.info? 22).map (·.size) = some 1 := by kernel_rfl
theorem zi_Suint8 : (Try.prog.info? 22).map (fun i => (i.zero, i.size)) = some (some (.slice none 0 0), 1) := by kernel_rfl
theorem zb_Suint8 : (Try.prog.info? 22).map (fun i => (i.zero, i.size, i.bytes)) = some (some (.slice none 0 0), 1, 24) := by kernel_rfl
theorem zi_aes_Cipher : (Try.prog.info? 97).map (fun i => (i.zero, i.size)) = some (some (.agg #[.slice none 0 0, .int .u8 0, .int .u8 0, .int .u8 0, .int .u8 0, .int .u8 0, .int .u8 0, .int .u8 0, .int .u8 0, .int .u8 0, .int .u8 0, .int .u8 0, .int .u8 0, .int .u8 0, .int .u8 0, .int .u8 0, .int .u8 0, .int .u8 0, .int .u8 0, .int .u8 0, .int .u8 0, .int .u8 0, .int .u8 0, .int .u8 0, .int .u8 0, .int .u8 0, .int .u8 0, .int .u8 0, .int .u8 0, .int .u8 0, .int .u8 0, .int .u8 0, .int .u8 0, .int .u8 0, .int .u8 0, .int .u8 0, .int .u8 0, .int .u8 0, .int .u8 0, .int .u8 0, .int .u8 0, .int .u8 0, .int .u8 0, .int .u8 0, .int .u8 0, .int .u8 0, .int .u8 0, .int .u8 0, .int .u8 0, .int .u8 0, .int .u8 0, .int .u8 0, .int .u8 0, .int .u8 0, .int .u8 0, .int .u8 0, .int .u8 0, .int .u8 0, .int .u8 0, .int .u8 0, .int .u8 0, .int .u8 0, .int .u8 0, .int .u8 0, .int .u8 0, .int .u8 0, .int .u8 0, .int .u8 0, .int .u8 0, .int .u8 0, .int .u8 0, .int .u8 0, .int .u8 0, .int .u8 0, .int .u8 0, .int .u8 0, .int .u8 0, .int .u8 0, .int .u8 0, .int .u8 0, .int .u8 0, .int .u8 0, .int .u8 0, .int .u8 0, .int .u8 0, .int .u8 0, .int .u8 0, .int .u8 0, .int .u8 0, .int .u8 0, .int .u8 0, .int .u8 0, .int .u8 0, .int .u8 0, .int .u8 0, .int .u8 0, .int .u8 0, .int .u8 0, .int .u8 0, .int .u8 0, .int .u8 0, .int .u8 0, .int .u8 0, .int .u8 0, .int .u8 0, .int .u8 0, .int .u8 0, .int .u8 0, .int .u8 0, .int .u8 0, .int .u8 0, .int .u8 0, .int .u8 0, .int .u8 0, .int .u8 0, .int .u8 0, .int .u8 0, .int .u8 0, .int .u8 0, .int .u8 0, .int .u8 0, .int .u8 0, .int .u8 0, .int .u8 0, .int .u8 0, .int .u8 0, .int .u8 0, .int .u8 0, .int .u8 0, .int .u8 0, .int .u8 0, .int .u8 0, .int .u8 0, .int .u8 0, .int .u8 0, .int .u8 0, .int .u8 0, .int .u8 0, .int .u8 0, .int .u8 0, .int .u8 0, .int .u8 0, .int .u8 0, .int .u8 0, .int .u8 0, .int .u8 0, .int .u8 0, .int .u8 0, .int .u8 0, .int .u8 0, .int .u8 0, .int .u8 0, .int .u8 0, .int .u8 0, .int .u8 0, .int .u8 0, .int .u8 0, .int .u8 0, .int .u8 0, .int .u8 0, .int .u8 0, .int .u8 0, .int .u8 0, .int .u8 0, .int .u8 0, .int .u8 0, .int .u8 0, .int .u8 0, .int .u8 0, .int .u8 0, .int .u8 0, .int .u8 0, .int .u8 0, .int .u8 0, .int .u8 0, .int .u8 0, .int .u8 0, .int .u8 0, .int .u8 0, .int .u8 0, .int .u8 0, .int .u8 0, .int .u8 0, .int .u8 0, .int .u8 0, .int .u8 0, .int .u8 0, .int .u8 0, .int .u8 0, .int .u8 0, .int .u8 0, .int .u8 0, .int .u8 0, .int .u8 0, .int .u8 0, .int .u8 0, .int .u8 0, .int .u8 0, .int .u8 0, .int .u8 0, .int .u8 0, .int .u8 0, .int .u8 0, .int .u8 0, .int .u8 0, .int .u8 0, .int .u8 0, .int .u8 0, .int .u8 0, .int .u8 0, .int .u8 0, .int .u8 0, .int .u8 0, .int .u8 0, .int .u8 0, .int .u8 0, .int .u8 0, .int .u8 0, .int .u8 0, .int .u8 0, .int .u8 0, .int .u8 0, .int .u8 0, .int .u8 0, .int .u8 0, .int .u8 0, .int .u8 0, .int .u8 0, .int .u8 0, .int .u8 0, .int .u8 0, .int .u8 0, .int .u8 0, .int .u8 0, .int .u8 0, .int .u8 0, .int .u8 0, .int .u8 0, .int .u8 0, .int .u8 0, .int .u8 0, .int .u8 0, .int .u8 0, .int .u8 0, .int .u8 0, .int .u8 0, .int .u8 0, .int .u8 0, .int .u8 0, .int .u8 0, .int .u8 0, .int .u8 0, .int .u8 0, .int .u8 0, .int .u8 0, .int .u8 0, .int .u8 0, .int .u8 0, .int .u8 0, .int .u8 0, .int .u8 0, .int .u8 0, .int .u8 0, .int .u8 0, .int .u8 0, .int .u8 0, .int .u8 0, .int .u8 0, .int .u8 0, .int .u8 0, .int .u8 0, .int .u8 0, .int .u8 0, .int .u8 0, .int .u8 0, .int .u8 0, .int .u8 0, .int .u8 0, .int .u8 0, .int .u8 0, .int .u8 0, .int .u8 0, .int .u8 0, .int .u8 0, .int .u8 0, .int .u8 0, .int .u8 0, .int .u8 0, .int .u8 0, .int .u8 0, .int .u8 0, .int .u8 0, .int .u8 0, .int .u8 0, .int .u8 0, .int .u8 0, .int .u8 0, .int .u8 0, .int .u8 0, .int .u8 0, .int .u8 0, .int .u8 0, .int .u8 0, .int .u8 0, .int .u8 0, .int .u8 0, .int .u8 0, .int .u8 0, .int .u8 0, .int .u8 0, .int .u8 0, .int .u8 0, .int .u8 0, .int .u8 0, .int .u8 0, .int .u8 0, .int .u8 0, .int .u8 0, .int .u8 0, .int .u8 0, .int .u8 0, .int .u8 0, .int .u8 0, .int .u8 0, .int .u8 0, .int .u8 0, .int .u8 0, .int .u8 0, .int .u8 0, .int .u8 0, .int .u8 0, .int .u8 0, .int .u8 0, .int .u8 0, .int .u8 0, .int .u8 0, .int .u8 0, .int .u8 0, .int .u8 0, .int .u8 0, .int .u8 0, .int .u8 0, .int .u8 0, .int .u8 0, .int .u8 0, .int .u8 0, .int .u8 0, .int .u8 0, .int .u8 0, .int .u8 0, .int .u8 0, .int .u8 0, .int .u8 0, .int .u8 0, .int .u8 0, .int .u8 0, .int .u8 0, .int .u8 0, .int .u8 0, .int .u8 0, .int .u8 0, .int .u8 0, .int .u8 0, .int .u8 0, .int .u8 0, .int .u8 0, .int .u8 0, .int .u8 0, .int .u8 0, .int .u8 0, .int .u8 0, .int .u8 0, .int .u8 0, .int .u8 0, .int .u8 0, .int .u8 0, .int .u8 0, .int .u8 0, .int .u8 0, .int .u8 0, .int .u8 0, .int .u8 0, .int .u8 0, .int .u8 0, .int .u8 0, .int .u8 0, .int .u8 0, .int .u8 0, .int .u8 0, .int .u8 0, .int .u8 0, .int .u8 0, .int .u8 0, .int .u8 0, .int .u8 0, .int .u8 0, .int .u8 0, .int .u8 0, .int .u8 0, .int .u8 0, .int .u8 0, .int .u8 0, .int .u8 0, .int .u8 0, .int .u8 0, .int .u8 0, .int .u8 0, .int .u8 0, .int .u8 0, .int .u8 0, .int .u8 0, .int .u8 0, .int .u8 0, .int .u8 0, .int .u8 0, .int .u8 0, .int .u8 0, .int .u8 0, .int .u8 0, .int .u8 0, .int .u8 0, .int .u8 0, .int .u8 0, .int .u8 0, .int .u8 0, .int .u8 0, .int .u8 0, .int .u8 0, .int .u8 0, .int .u8 0, .int .u8 0, .int .u8 0, .int .u8 0, .int .u8 0, .int .u8 0, .int .u8 0, .int .u8 0, .int .u8 0, .int .u8 0, .int .u8 0, .int .u8 0, .int .u8 0, .int .u8 0, .int .u8 0, .int .u8 0, .int .u8 0, .int .u8 0, .int .u8 0, .int .u8 0, .int .u8 0, .int .u8 0, .int .u8 0, .int .u8 0, .int .u8 0, .int .u8 0, .int .u8 0, .int .u8 0, .int .u8 0, .int .u8 0, .int .u8 0, .int .u8 0, .int .u8 0, .int .u8 0, .int .u8 0, .int .u8 0, .int .u8 0, .int .u8 0, .int .u8 0, .int .u8 0, .int .u8 0, .int .u8 0, .int .u8 0, .int .u8 0, .int .u8 0, .int .u8 0, .int .u8 0, .int .u8 0, .int .u8 0, .int .u8 0, .int .u8 0, .int .u8 0, .int .u8 0, .int .u8 0, .int .u8 0, .int .u8 0, .int .u8 0, .int .u8 0, .int .u8 0, .int .u8 0, .int .u8 0, .int .u8 0, .int .u8 0, .int .u8 0, .int .u8 0, .int .u8 0, .int .u8 0, .int .u8 0, .int .u8 0, .int .u8 0, .int .u8 0, .int .u8 0, .int .u8 0, .int .u8 0, .int .u8 0, .int .u8 0, .int .u8 0, .int .u8 0, .int .u8 0, .int .u8 0, .int .u8 0, .int .u8 0, .int .u8 0, .int .u8 0]), 513) := by kernel_rfl
theorem sz_bool : (Try.prog.info? 4).map (·.size) = some 1 := by kernel_rfl
theorem zi_bool : (Try.prog.info? 4).map (fun i => (i.zero, i.size)) = some (some (.bool false), 1) := by kernel_rfl
theorem sz_int : (Try.prog.info? 3).map (·.size) = some 1 := by kernel_rfl
theorem zi_int : (Try.prog.info? 3).map (fun i => (i.zero, i.size)) = some (some (.int .i64 0), 1) := by kernel_rfl
theorem zb_int : (Try.prog.info? 3).map (fun i => (i.zero, i.size, i.bytes)) = some (some (.int .i64 0), 1, 8) := by kernel_rfl
theorem sz_uint : (Try.prog.info? 111).map (·.size) = some 1 := by kernel_rfl
theorem sz_uint16 : (Try.prog.info? 36).map (·.size) = some 1 := by kernel_rfl
theorem sz_uint32 : (Try.prog.info? 106).map (·.size) = some 1 := by kernel_rfl
theorem zi_uint32 : (Try.prog.info? 106).map (fun i => (i.zero, i.size)) = some (some (.int .u32 0), 1) := by kernel_rfl
theorem zb_uint32 : (Try.prog.info? 106).map (fun i => (i.zero, i.size, i.bytes)) = some (some (.int .u32 0), 1, 4) := by kernel_rfl
theorem sz_uint8 : (Try.prog.info? 5).map (·.size) = some 1 := by kernel_rfl
theorem zi_uint8 : (Try.prog.info? 5).map (fun i => (i.zero, i.size)) = some (some (.int .u8 0), 1) := by kernel_rfl
theorem zb_uint8 : (Try.prog.info? 5).map (fun i => (i.zero, i.size, i.bytes)) = some (some (.int .u8 0), 1, 1) := by kernel_rfl
theorem sz_func_int_int_Suint8_ : (Try.prog.info? 66).map (·.size) = some 1 := by kernel_rfl
theorem zi_func_int_int_Suint8_ : (Try.prog.info? 66).map (fun i => (i.zero, i.size)) = some (some (.nilFunc), 1) := by kernel_rfl
end
end Go.Proofs.Ytohgmggdfmjgnaa
