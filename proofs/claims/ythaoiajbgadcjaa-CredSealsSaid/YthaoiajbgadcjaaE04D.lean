/- The document's cipher is the program's. -/
import Derived.Test.YthaoiajbgadcjaaE09A
set_option linter.unusedVariables false
set_option linter.unusedSimpArgs false
namespace Go.Proofs.Ythaoiajbgadcjaa
open Go.RowKit
/-- bytes as numbers -/
def ci (s : List UInt8) : List Int := s.map fun b => (b.toNat : Int)
def cb (pre : List UInt32) : List Int := ci (pre.flatMap p4)
theorem i64x (a b : UInt8) : i64_xor (a.toNat : Int) (b.toNat : Int) = ((a ^^^ b).toNat : Int) := by
  have hx := (a ^^^ b).toNat_lt
  unfold i64_xor
  show IntKind.i64.wrap ((BitVec.ofInt 64 (a.toNat : Int) ^^^ BitVec.ofInt 64 (b.toNat : Int)).toNat : Int) = _
  have e : ∀ c : UInt8, BitVec.ofInt 64 (c.toNat : Int) = c.toBitVec.setWidth 64 := by
    intro c
    apply BitVec.eq_of_toNat_eq
    rw [BitVec.ofInt_natCast, BitVec.toNat_ofNat, BitVec.toNat_setWidth]
    rfl
  rw [e, e, ← BitVec.setWidth_xor, BitVec.toNat_setWidth]
  rw [show (a.toBitVec ^^^ b.toBitVec).toNat = (a ^^^ b).toNat from rfl, Nat.mod_eq_of_lt (by omega)]
  exact nw64 (by omega)
theorem rXor (a b : UInt8) : chatelaineref04_xor 300 (a.toNat : Int) (b.toNat : Int) = some (((a ^^^ b).toNat : Nat) : Int) := by
  unfold chatelaineref04_xor; rw [i64x]
theorem rSum (a b c d : UInt8) : chatelaineref04_sum 300 (a.toNat : Int) (b.toNat : Int) (c.toNat : Int) (d.toNat : Int) = some ((((a ^^^ b) ^^^ (c ^^^ d)).toNat : Nat) : Int) := by
  unfold chatelaineref04_sum
  rw [rXor, rXor]
  simp only [Option.bind_some]
  rw [rXor]
  rfl
set_option maxRecDepth 100000 in
theorem rTimes2 (p : UInt8) : chatelaineref02_Times 300 (p.toNat : Int) 2 = some ((tw p).toNat : Int) := all8 (p := fun p => chatelaineref02_Times 300 (p.toNat : Int) 2 = some ((tw p).toNat : Int)) (by decide +kernel) p
set_option maxRecDepth 100000 in
theorem rTimes3 (p : UInt8) : chatelaineref02_Times 300 (p.toNat : Int) 3 = some ((tw p ^^^ p).toNat : Int) := all8 (p := fun p => chatelaineref02_Times 300 (p.toNat : Int) 3 = some ((tw p ^^^ p).toNat : Int)) (by decide +kernel) p
set_option maxRecDepth 100000 in
theorem rBox : chatelaineref03_Box 300 = some (ci bxL) := by decide +kernel
theorem ci_len (s : List UInt8) : (ci s).length = s.length := by simp [ci]
theorem ci_get {s : List UInt8} {i : Nat} (h : i < s.length) : (ci s)[i]? = some ((s.getD i 0).toNat : Int) := by
  unfold ci; rw [List.getElem?_map, getD_some 0 h]; rfl
theorem idx_box (b : UInt8) : idx (ci bxL) (b.toNat : Int) = some ((bx b).toNat : Int) := by
  unfold ci; rw [idx_nat, List.getElem?_map, bxL_get]; rfl
theorem ci_app (a b : List UInt8) : ci (a ++ b) = ci a ++ ci b := by simp [ci]
theorem app8 (l m : List Int) (h : l.length + m.length ≤ 100000) : app 8 l m = some (l ++ m) := by
  unfold app; rw [if_pos (by unfold maxLen; omega)]
theorem fm_len : ∀ pre : List UInt32, (pre.flatMap p4).length = 4 * pre.length
  | [] => rfl
  | w :: pre => by
    rw [List.flatMap_cons, List.length_append, fm_len pre, List.length_cons, show (p4 w).length = 4 from rfl]; omega
theorem cb_len (pre : List UInt32) : (cb pre).length = 4 * pre.length := by rw [cb, ci_len, fm_len]
theorem fm_drop : ∀ (n : Nat) (pre : List UInt32), (pre.flatMap p4).drop (4 * n) = (pre.drop n).flatMap p4
  | 0, _ => rfl
  | n + 1, [] => by simp
  | n + 1, w :: pre => by
    rw [List.flatMap_cons, List.drop_succ_cons, ← fm_drop n pre, show 4 * (n + 1) = (p4 w).length + 4 * n from by show _ = 4 + 4 * n; omega, List.drop_append]
    simp
theorem fm_take : ∀ (n : Nat) (pre : List UInt32), (pre.flatMap p4).take (4 * n) = (pre.take n).flatMap p4
  | 0, _ => rfl
  | n + 1, [] => by simp
  | n + 1, w :: pre => by
    rw [List.flatMap_cons, List.take_succ_cons, List.flatMap_cons, ← fm_take n pre, show 4 * (n + 1) = (p4 w).length + 4 * n from by show _ = 4 + 4 * n; omega, List.take_append]
    rw [List.take_of_length_le (show (p4 w).length ≤ (p4 w).length + 4 * n by omega), Nat.add_sub_cancel_left]
theorem fm_get {pre : List UInt32} {i j : Nat} (hi : i < pre.length) (hj : j < 4) : (pre.flatMap p4)[4 * i + j]? = some ((p4 (pre.getD i 0)).getD j 0) := by
  rw [← List.getElem?_drop, fm_drop, List.drop_eq_getElem_cons hi, List.flatMap_cons, List.getElem?_append_left (by exact hj)]
  rw [show pre.getD i 0 = pre[i] from by simp [List.getD, List.getElem?_eq_getElem hi]]
  exact getD_some 0 hj
theorem cb_get {pre : List UInt32} {i j : Nat} (hi : i < pre.length) (hj : j < 4) : (cb pre)[4 * i + j]? = some (((p4 (pre.getD i 0)).getD j 0).toNat : Int) := by
  unfold cb ci; rw [List.getElem?_map, fm_get hi hj]; rfl
/-! the words -/
section
variable {key : List UInt8} {k N : Nat} {n : Int}
theorem rMake_l0 (hk : key.length ≤ 100) (bs : List Int) : ∀ d i K, i + d = key.length → d < K → chatelaineref04_Make_l0 300 key K (i : Int) (n, ci (key.take i), bs) = some (n, ci key, bs) := by
  intro d
  induction d with
  | zero =>
    intro i K hi hK
    obtain ⟨K, rfl⟩ : ∃ m, K = m + 1 := ⟨K - 1, by omega⟩
    rw [chatelaineref04_Make_l0, if_neg (by omega), List.take_of_length_le (by omega)]
  | succ d ih =>
    intro i K hi hK
    obtain ⟨K, rfl⟩ : ∃ m, K = m + 1 := ⟨K - 1, by omega⟩
    rw [chatelaineref04_Make_l0, if_pos (by omega), idx_nat, List.getElem?_eq_getElem (show i < key.length by omega)]
    simp only [Option.bind_some]
    rw [app8 _ _ (by rw [ci_len, List.length_take]; simp; omega)]
    simp only [Option.bind_some]
    rw [k_id (by omega)]
    have := ih (i + 1) K (by omega) (by omega)
    rw [List.take_succ_eq_append_getElem (show i < key.length by omega), ci_app] at this
    exact this
theorem rMake_l2 (h : key.length = 4 * k) (hk : k ≤ 8) (i : Nat) (hki : k ≤ i) (hi : i ≤ 100) (bs : List Int) (x y : List UInt8) (hy : y.length = 4) (B : List UInt8) (hB : B.length = 4 * i) (hx : ∀ j, j < 4 → B[4 * (i - k) + j]? = some (x.getD j 0)) (hxl : x.length = 4) (hk0 : 0 < k) :
    chatelaineref04_Make_l2 300 key (i : Int) (ci y) 300 0 (n, ci B, bs) = some (n, ci (B ++ ad x y), bs) := by
  have st : ∀ (j K : Nat) (M : List UInt8), j < 4 → M.length ≤ 4 → chatelaineref04_Make_l2 300 key (i : Int) (ci y) (K + 1) (j : Int) (n, ci (B ++ M), bs) = chatelaineref04_Make_l2 300 key (i : Int) (ci y) K ((j + 1 : Nat) : Int) (n, ci ((B ++ M) ++ [x.getD j 0 ^^^ y.getD j 0]), bs) := by
    intro j K M hj hM
    have hlen : (ci (B ++ M)).length = 4 * i + M.length := by rw [ci_len, List.length_append, hB]
    rw [chatelaineref04_Make_l2, if_pos (by omega), tdiv4 h hk, k_id (x := (i : Int) - k) (by omega), k_id (x := 4 * ((i : Int) - k)) (by omega), k_id (by omega), show 4 * ((i : Int) - k) + j = ((4 * (i - k) + j : Nat) : Int) by omega]
    simp only [hlen]
    rw [ix_nat (by omega)]
    simp only [Option.bind_some]
    rw [ci_get (by rw [List.length_append]; omega)]
    simp only [Option.bind_some]
    rw [ix_nat (by rw [ci_len]; omega)]
    simp only [Option.bind_some]
    rw [ci_get (by omega)]
    simp only [Option.bind_some]
    have e : (B ++ M).getD (4 * (i - k) + j) 0 = x.getD j 0 := by
      have := hx j hj
      rw [List.getD, List.getElem?_append_left (by omega), this]; rfl
    rw [e, rXor]
    simp only [Option.bind_some]
    rw [app8 _ _ (by rw [hlen]; simp; omega)]
    simp only [Option.bind_some]
    rw [k_id (by omega), ci_app (B ++ M)]
    rfl
  have h0 := st 0 299 [] (by omega) (by simp)
  have h1 := st 1 298 [x.getD 0 0 ^^^ y.getD 0 0] (by omega) (by simp)
  have h2 := st 2 297 [x.getD 0 0 ^^^ y.getD 0 0, x.getD 1 0 ^^^ y.getD 1 0] (by omega) (by simp)
  have h3 := st 3 296 [x.getD 0 0 ^^^ y.getD 0 0, x.getD 1 0 ^^^ y.getD 1 0, x.getD 2 0 ^^^ y.getD 2 0] (by omega) (by simp)
  simp only [List.append_nil, List.append_assoc, List.cons_append, List.nil_append] at h0 h1 h2 h3
  rw [show (0 : Int) = ((0 : Nat) : Int) from rfl, h0, h1, h2, h3, chatelaineref04_Make_l2, if_neg (by omega)]
  match x, y, hxl, hy with
  | [x0, x1, x2, x3], [y0, y1, y2, y3], _, _ => rfl
theorem rWord (h : key.length = 4 * k) (hk : k ≤ 8) (hk0 : 0 < k) (K i : Nat) (plus : UInt8) (pre : List UInt32) (hp : pre.length = i) (hi : k ≤ i) (hN2 : i < 4 * (k + 7)) :
    chatelaineref04_Make_l1 300 key (K + 1) (plus.toNat : Int) (i : Int) ((k : Int) + 6, cb pre, ci bxL) = chatelaineref04_Make_l1 300 key K ((nxP k i plus).toNat : Int) ((i + 1 : Nat) : Int) ((k : Int) + 6, cb (pre ++ [nxW k i plus pre]), ci bxL) := by
  have hw : ∀ j, j < 4 → (cb pre)[4 * (i - 1) + j]? = some (((p4 (pre.getD (i - 1) 0)).getD j 0).toNat : Int) := fun j hj => cb_get (by omega) hj
  generalize hW : pre.getD (i - 1) 0 = w at *
  have g0 := hw 0 (by omega); have g1 := hw 1 (by omega); have g2 := hw 2 (by omega); have g3 := hw 3 (by omega)
  rw [chatelaineref04_Make_l1]
  dsimp only
  rw [k_id (x := (k : Int) + 6 + 1) (by omega), k_id (x := 4 * ((k : Int) + 6 + 1)) (by omega), if_pos (by omega), k_id (x := 4 * (i : Int)) (by omega), k_id (x := 4 * (i : Int) - 4) (by omega), k_id (x := 4 * (i : Int) - 3) (by omega), k_id (x := 4 * (i : Int) - 2) (by omega), k_id (x := 4 * (i : Int) - 1) (by omega),
    show 4 * (i : Int) - 4 = ((4 * (i - 1) + 0 : Nat) : Int) by omega, show 4 * (i : Int) - 3 = ((4 * (i - 1) + 1 : Nat) : Int) by omega, show 4 * (i : Int) - 2 = ((4 * (i - 1) + 2 : Nat) : Int) by omega, show 4 * (i : Int) - 1 = ((4 * (i - 1) + 3 : Nat) : Int) by omega,
    cb_len, ix_nat (by omega), ix_nat (by omega), ix_nat (by omega), ix_nat (by omega)]
  simp only [Option.bind_some, g0, g1, g2, g3]
  rw [tdiv4 h hk, remI_nat (by omega)]
  simp only [Option.bind_some]
  have hy : ∃ y, y = p4 (nxT k i plus pre) := ⟨_, rfl⟩
  obtain ⟨y, hy⟩ := hy
  have hl2 : chatelaineref04_Make_l2 300 key (i : Int) (ci y) 300 0 ((k : Int) + 6, cb pre, ci bxL) = some ((k : Int) + 6, cb (pre ++ [nxW k i plus pre]), ci bxL) := by
    have := rMake_l2 (n := (k : Int) + 6) h hk i hi (by omega) (ci bxL) (p4 (pre.getD (i - k) 0)) y (by rw [hy]; rfl) (pre.flatMap p4) (by rw [fm_len, hp]) (fun j hj => by rw [fm_get (by omega) hj]) rfl hk0
    unfold cb
    rw [this, nxW, List.flatMap_append, hy]
    congr 3
    rw [List.flatMap_cons, List.flatMap_nil, List.append_nil, p4_xor]
  have hb : p4 w = [by0 w, by1 w, by2 w, by3 w] := rfl
  by_cases h1 : i % k = 0
  · have ey : y = [bx (by1 w) ^^^ plus, bx (by2 w), bx (by3 w), bx (by0 w)] := by
      rw [hy]; unfold nxT
      rw [if_pos h1, hW, p4_xor, p4_swpd, p4_plus]
      have hr := p4_rotw w
      rw [p4_by] at hr
      injection hr with r0 hr; injection hr with r1 hr; injection hr with r2 hr; injection hr with r3 _
      rw [r0, r1, r2, r3]
      simp [ad]
    rw [if_pos (by omega)]
    simp only [hb]
    have z : ∀ (u0 u1 u2 u3 : Int), ix ([u0, u1, u2, u3]).length 0 = some 0 ∧ ix ([u0, u1, u2, u3]).length 1 = some 1 ∧ ix ([u0, u1, u2, u3]).length 2 = some 2 ∧ ix ([u0, u1, u2, u3]).length 3 = some 3 := fun _ _ _ _ => ⟨rfl, rfl, rfl, rfl⟩
    simp only [(z _ _ _ _).1, (z _ _ _ _).2.1, (z _ _ _ _).2.2.1, (z _ _ _ _).2.2.2, Option.bind_some, List.getElem?_cons_zero, List.getElem?_cons_succ, List.getD_cons_zero, List.getD_cons_succ, idx_box, rXor, rTimes2]
    rw [show nxP k i plus = tw plus by unfold nxP; rw [if_pos h1]]
    rw [show [(((bx (by1 w) ^^^ plus).toNat : Nat) : Int), ((bx (by2 w)).toNat : Int), ((bx (by3 w)).toNat : Int), ((bx (by0 w)).toNat : Int)] = ci y by rw [ey]; rfl, hl2]
    simp only [Option.bind_some]
    rw [k_id (by omega)]
    rfl
  · rw [if_neg (by omega), show nxP k i plus = plus by unfold nxP; rw [if_neg h1]]
    by_cases h2 : k = 8 ∧ i % 8 = 4
    · have ey : y = [bx (by0 w), bx (by1 w), bx (by2 w), bx (by3 w)] := by
        rw [hy]; unfold nxT
        rw [if_neg h1, if_pos h2, hW, p4_swpd]
      rw [if_pos (by rw [show (8 : Int) = ((8 : Nat) : Int) from rfl, ← Int.ofNat_tmod]; simp; omega)]
      simp only [hb]
      have z : ∀ (u0 u1 u2 u3 : Int), ix ([u0, u1, u2, u3]).length 0 = some 0 ∧ ix ([u0, u1, u2, u3]).length 1 = some 1 ∧ ix ([u0, u1, u2, u3]).length 2 = some 2 ∧ ix ([u0, u1, u2, u3]).length 3 = some 3 := fun _ _ _ _ => ⟨rfl, rfl, rfl, rfl⟩
      simp only [(z _ _ _ _).1, (z _ _ _ _).2.1, (z _ _ _ _).2.2.1, (z _ _ _ _).2.2.2, Option.bind_some, List.getElem?_cons_zero, List.getElem?_cons_succ, List.getD_cons_zero, List.getD_cons_succ, idx_box]
      rw [show [((bx (by0 w)).toNat : Int), ((bx (by1 w)).toNat : Int), ((bx (by2 w)).toNat : Int), ((bx (by3 w)).toNat : Int)] = ci y by rw [ey]; rfl, hl2]
      simp only [Option.bind_some]
      rw [k_id (by omega)]
      rfl
    · have ey : y = p4 w := by
        rw [hy]; unfold nxT
        rw [if_neg h1, if_neg h2, hW]
      rw [if_neg (by rw [show (8 : Int) = ((8 : Nat) : Int) from rfl, ← Int.ofNat_tmod]; simp; omega)]
      simp only [Option.bind_some]
      rw [show [(((p4 w).getD 0 0).toNat : Int), (((p4 w).getD 1 0).toNat : Int), (((p4 w).getD 2 0).toNat : Int), (((p4 w).getD 3 0).toNat : Int)] = ci y by rw [ey]; rfl, hl2]
      simp only [Option.bind_some]
      rw [k_id (by omega)]
      rfl
theorem rMake_l1 (h : key.length = 4 * k) (hk : k ≤ 8) (hk0 : 0 < k) : ∀ d i K plus (pre : List UInt32), pre.length = i → k ≤ i → i + d = 4 * (k + 7) → d < K →
    chatelaineref04_Make_l1 300 key K (plus.toNat : Int) (i : Int) ((k : Int) + 6, cb pre, ci bxL) = some ((k : Int) + 6, cb (sch k d i plus pre), ci bxL) := by
  intro d
  induction d with
  | zero =>
    intro i K plus pre hp hi hN hK
    obtain ⟨K, rfl⟩ : ∃ m, K = m + 1 := ⟨K - 1, by omega⟩
    rw [chatelaineref04_Make_l1]
    dsimp only
    rw [k_id (x := (k : Int) + 6 + 1) (by omega), k_id (by omega), if_neg (by omega)]
    rfl
  | succ d ih =>
    intro i K plus pre hp hi hN hK
    obtain ⟨K, rfl⟩ : ∃ m, K = m + 1 := ⟨K - 1, by omega⟩
    rw [rWord h hk hk0 K i plus pre hp hi (by omega), ih (i + 1) K _ _ (by simp [hp]) (by omega) (by omega) (by omega)]
    rfl
theorem kws_bytes (h : key.length = 4 * k) : (kws key k).flatMap p4 = key := by
  have key' : ∀ i, i ≤ k → ((List.range i).map (getW key)).flatMap p4 = key.take (4 * i) := by
    intro i
    induction i with
    | zero => intro _; rfl
    | succ i ih =>
      intro hi
      have s4 := sub4 key i (by omega)
      unfold sub at s4
      rw [if_pos (by omega), show (4 * (i : Int) + 4).toNat = 4 * i + 4 by omega, show (4 * (i : Int)).toNat = 4 * i by omega] at s4
      rw [List.range_succ, List.map_append, List.flatMap_append, ih (by omega)]
      rw [show (List.map (getW key) [i]).flatMap p4 = p4 (getW key i) by simp, getW, p4_mk4, ← Option.some.inj s4]
      rw [show 4 * (i + 1) = 4 * i + 4 by omega, ← List.take_append_drop (4 * i) (key.take (4 * i + 4)), List.take_take, Nat.min_eq_left (by omega)]
      rw [List.drop_append, List.length_take]
      simp
      omega
  have := key' k (Nat.le_refl _)
  rw [List.take_of_length_le (by omega)] at this
  exact this
theorem rMake (h : key.length = 16 ∨ key.length = 32) : chatelaineref04_Make 300 key = some (((key.length / 4 + 6 : Nat) : Int), cb (schedA key), ci bxL) := by
  obtain ⟨k, hk, hk8, hk0⟩ : ∃ k, key.length = 4 * k ∧ k ≤ 8 ∧ 0 < k := ⟨key.length / 4, by omega, by omega, by omega⟩
  unfold chatelaineref04_Make
  rw [rBox]
  simp only [Option.bind_some]
  rw [tdiv4 hk hk8, k_id (x := (k : Int) + 6) (by omega)]
  have h0 := rMake_l0 (n := (k : Int) + 6) (key := key) (by omega) (ci bxL) key.length 0 300 (by omega) (by omega)
  rw [show ci (key.take 0) = [] from rfl, show ((0 : Nat) : Int) = 0 from rfl] at h0
  rw [h0]
  simp only [Option.bind_some]
  have hb : ci key = cb (kws key k) := by unfold cb; rw [kws_bytes hk]
  have h1 := rMake_l1 hk hk8 hk0 (4 * (k + 7) - k) k 300 1 (kws key k) (by simp [kws]) (Nat.le_refl _) (by omega) (by omega)
  rw [show (((1 : UInt8).toNat : Nat) : Int) = 1 from rfl, ← hb] at h1
  rw [h1]
  simp only [Option.bind_some]
  unfold schedA
  rw [hk, Nat.mul_div_cancel_left _ (by decide)]
  rfl
end
end Go.Proofs.Ythaoiajbgadcjaa
