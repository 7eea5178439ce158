/- Views: parts of arrays and of own rows, told lazily, copied from and to; arrays in variables and behind pointers, read and written at an index. -/
import Derived.Test.YtohgmggdfmjgnaaPj
set_option linter.unusedVariables false
set_option linter.unusedSimpArgs false
namespace Go.Proofs.Ytohgmggdfmjgnaa
open Go.RowKit
def bnd (n : Nat) (lo hi : Int) : Option (Nat × Nat) := if 0 ≤ lo ∧ lo ≤ hi ∧ hi ≤ (n : Int) then some (lo.toNat, hi.toNat) else none
theorem bnd_some {n : Nat} {lo hi : Int} {y : Nat × Nat} (h : bnd n lo hi = some y) : lo = (y.1 : Int) ∧ hi = (y.2 : Int) ∧ y.1 ≤ y.2 ∧ y.2 ≤ n := by
  unfold bnd at h
  split at h
  · rename_i k; cases h; dsimp only; omega
  · cases h
def appF {α : Type} (b : Nat) (l m : List α) : Option (List α) := if m.length = 0 then none else app b l m
theorem appF_some {α : Type} {b : Nat} {l m r : List α} (h : appF b l m = some r) : 0 < m.length ∧ app b l m = some r := by
  unfold appF at h
  split at h
  · cases h
  · exact ⟨by omega, h⟩
def cpy {α : Type} (xs : List α) (l g : Nat) (ys : List α) : List α := xs.take l ++ (ys.take (g - l) ++ xs.drop (l + min ys.length (g - l)))
theorem cpy_len {α : Type} {xs : List α} {l g : Nat} (ys : List α) (h1 : l ≤ g) (h2 : g ≤ xs.length) : (cpy xs l g ys).length = xs.length := by
  simp only [cpy, List.length_append, List.length_take, List.length_drop]; omega
theorem cut_len {α : Type} {xs : List α} {l g n : Nat} (h2 : g ≤ xs.length) (hn : g - l = n) : n = ((xs.take g).drop l).length := by
  simp only [List.length_take, List.length_drop]; omega
theorem cell_mid {X c Z : List Value} {off m : Nat} {u : Value} (hX : X.length = off) (h : c[m]? = some u) : (X ++ (c ++ Z))[off + m]? = some u := by
  subst hX
  have hm : m < c.length := (List.getElem?_eq_some_iff.1 h).1
  rw [List.getElem?_append_right (by omega), Nat.add_sub_cancel_left, List.getElem?_append_left hm]
  exact h
/-- where a view of a block's first cells begins -/
def vA (G m l : Nat) : Option Addr := some ⟨G, if m = l then 0 else 0 + l * 1, none⟩
theorem vA_eq {G m l : Nat} (h : l < m) : vA G m l = some ⟨G, l, none⟩ := by unfold vA; rw [if_neg (by omega)]; simp
section
variable {α : Type} {T : Ty α} {S S' : Snap}
theorem reps.cut {xs : List α} {cs : List Value} (h1 : T.sz = 1) (hr : reps T S cs xs) (l g : Nat) : reps T S ((cs.take g).drop l) ((xs.take g).drop l) := by
  have := (hr.take g).drop l
  rwa [h1, Nat.mul_one, Nat.mul_one] at this
theorem reps.cpy {xs ys : List α} {cs ds : List Value} (h1 : T.sz = 1) (hr : reps T S cs xs) (hs : reps T S ds ys) (l g : Nat) : reps T S (splice cs l (ds.take (g - l))) (cpy xs l g ys) := by
  have hd : ds.length = ys.length := by rw [hs.len, h1, Nat.mul_one]
  have a := hr.take l
  have b := hs.take (g - l)
  have c := hr.drop (l + min ys.length (g - l))
  rw [h1, Nat.mul_one] at a b c
  have e : (ds.take (g - l)).length = min ys.length (g - l) := by rw [List.length_take, hd, Nat.min_comm]
  unfold splice Go.Proofs.Ytohgmggdfmjgnaa.cpy
  rw [e]
  exact a.append (b.append c)
end
section
variable {P : Program} {ops : Array Oper} {rest : List Oper} {o : Oper} {Q : Exit → Act → World → Prop} {N : Nat} {w0 w w' : World} {B : Nat → Prop} {ρ ρ' : Slots} {L L' Ls R : List Ch} {a a' : Act} {d : Nat} {u v : Value} {S S0 S' : Snap} {α : Type} {T : Ty α}
theorem Rd.vA {G m l g : Nat} {cs : List Value} (h : Rd w (some ⟨G, 0, none⟩) cs) (hg : g ≤ m) : Rd w (vA G m l) ((cs.take g).drop l) := by
  have k := (h.take g).tail l m (by rw [List.length_take]; omega)
  unfold Go.Proofs.Ytohgmggdfmjgnaa.vA
  by_cases hm : m = l
  · rw [if_pos hm] at k ⊢; exact k
  · rw [if_neg hm] at k ⊢; simpa [Addr.add_mid] using k
theorem Mem.rdBox0 (h : Mem w0 B L w) {i g : Nat} {E : TypeId} {cs : List Value} (hi : L[i]? = some (.box g E cs)) : Rd w (some ⟨g, 0, none⟩) cs := fun j v hv => ⟨_, rfl, by rw [Addr.add_mid, Nat.zero_add]; exact (h.cell hi j).trans hv⟩
theorem Rd.sA {A : Option Addr} {c l g sz : Nat} {cs : List Value} (h : Rd w A cs) (h1 : sz = 1) (hg : g ≤ c) : Rd w (sA A c l sz) ((cs.take g).drop l) := by
  have k := (h.take g).tail l c (by rw [List.length_take]; omega)
  subst h1
  unfold Go.Proofs.Ytohgmggdfmjgnaa.sA
  rw [Nat.mul_one]
  exact k
theorem Mem.rowLe (h : Mem w0 B L w) {i : Nat} {A : Option Addr} {n c : Nat} {E : TypeId} {sz : Nat} {cs : List Value} (hi : L[i]? = some (.row (.slice A n c) E sz n cs)) : n ≤ c ∧ c ≤ maxLen := by
  obtain ⟨A', c', e, h1, h2, _⟩ := h.rdRow hi
  cases e
  exact ⟨h1, h2⟩
/-- a view of an array, told of a snapshot -/
theorem slS_vA {G l g m : Nat} {cs : List Value} {xs : List α} (hc : ∀ w, SnapOK S w → w.rangeAt G 0 cs) (hr : reps T S cs xs) (h1 : T.sz = 1) (hl : xs.length = m) (hm : m ≤ maxLen) (hlg : l ≤ g) (hg : g ≤ m) : slS T S (vA G m l) (m - l) ((xs.take g).drop l) := by
  refine ⟨by rw [List.length_drop, List.length_take]; omega, by omega, (cs.take g).drop l, fun w hw => Rd.vA (fun i c hi => ⟨_, rfl, by rw [Addr.add_mid]; exact hc w hw i c hi⟩) hg, hr.cut h1 l g⟩
/-- a view of an array -/
theorem x_viewB (h : Knows N ρ a) {t : TypeId} {x : Operand} {lo hi : Option Operand} (ho : o.op = .slice t x lo hi none) {e : TypeId} {m : Nat} (ht : P.underlying t = some (.array m e)) (hs : (P.info? e).map (·.size) = some 1)
    {G : Nat} (hx : ev ρ x = some (.pointer (some ⟨G, 0, none⟩))) {l g : Nat} (hlo : Bd ρ lo 0 l) (hhi : Bd ρ hi m g) (hlg : l ≤ g) (hgm : g ≤ m) {n : Nat} (hn : g - l = n) :
    (execOp a.eval o).run P w = .ok (.value (.slice (vA G m l) n (m - l))) w := by
  subst hn
  exact x_sliceA h ho ht hs hx l g m hlo hhi rfl (fun _ => rfl) hlg hgm (Nat.le_refl _)
/-- a view of a row of one's own -/
theorem x_viewR (h : Knows N ρ a) {t : TypeId} {x : Operand} {lo hi : Option Operand} (ho : o.op = .slice t x lo hi none) {e : TypeId} (ht : P.underlying t = some (.slice e)) {sz : Nat} (hs : (P.info? e).map (·.size) = some sz)
    {A : Option Addr} {k c : Nat} (hx : ev ρ x = some (.slice A k c)) {l g : Nat} (hlo : Bd ρ lo 0 l) (hhi : Bd ρ hi k g) (hlg : l ≤ g) (hgm : g ≤ k) (hkc : k ≤ c) {n : Nat} (hn : g - l = n) :
    (execOp a.eval o).run P w = .ok (.value (.slice (sA A c l sz) n (c - l))) w := by
  subst hn
  exact x_slice h ho ht hs hx l g c hlo hhi rfl (fun _ => rfl) hlg (Nat.le_trans hgm hkc) (Nat.le_refl _)
/-- copy into an array, or a view of it -/
theorem q_copyB (h : St N w0 B ρ L a w) (hg : o.guard = none) {x y : Operand} {dT sT : TypeId} (ho : o.op = .call { callee := .builtin .copy, args := #[x, y], argTypes := #[dT, sT] }) (hd : o.dst = some d) (hN : d < N) {e : TypeId} (ht : P.underlying dT = some (.slice e)) (hsz : (P.info? e).map (·.size) = some 1)
    {G l g m n sn sc dc : Nat} {sp : Option Addr} (hx : ev ρ x = some (.slice (vA G m l) n dc)) (hy : ev ρ y = some (.slice sp sn sc)) (i : Nat) {E : TypeId} {cs ds : List Value} {xs ys : List α} (hi : L[i]? = some (.box G E cs)) (h1 : T.sz = 1) (hr : reps T S cs xs) (hs : reps T S ds ys) (hrd : Rd w sp ds) (hsn : sn = ys.length) (hn : g - l = n) (hlg : l ≤ g) (hgm : g ≤ m) (hm : xs.length = m)
    (k : ∀ a' w' cs' (z : Nat), reps T S cs' (cpy xs l g ys) → St N w0 B ((d, .int .i64 (z : Int)) :: ρ) (L.set i (.box G E cs')) a' w' → wpList P ops Q rest a' w') : wpList P ops Q (o :: rest) a w := by
  have hlc : cs.length = xs.length := by rw [hr.len, h1, Nat.mul_one]
  have hlb : ds.length = ys.length := by rw [hs.len, h1, Nat.mul_one]
  have hln : (ds.take (g - l)).length = min ys.length (g - l) := by rw [List.length_take, hlb, Nat.min_comm]
  refine s_copyB h hg ho hd hN ht hsz hx hy i l hi (ds.take (g - l)) (by rw [hln, hsn, hn]) (fun h0 => vA_eq (by rw [hln] at h0; omega)) (hrd.take _) (by rw [hln]; omega) (fun v hv => hs.one v (List.mem_of_mem_take hv)) (fun a' w' h => k a' w' _ _ (hr.cpy h1 hs l g) h)
/-- copy into a row of one's own, or a view of it -/
theorem q_copyR (h : St N w0 B ρ L a w) (hg : o.guard = none) {x y : Operand} {dT sT : TypeId} (ho : o.op = .call { callee := .builtin .copy, args := #[x, y], argTypes := #[dT, sT] }) (hd : o.dst = some d) (hN : d < N) {e : TypeId} (ht : P.underlying dT = some (.slice e)) (hsz : (P.info? e).map (·.size) = some 1)
    {l g n c sn sc dc : Nat} {A DA sp : Option Addr} (hx : ev ρ x = some (.slice DA n dc)) (hy : ev ρ y = some (.slice sp sn sc)) (i : Nat) {E : TypeId} {cs ds : List Value} {xs ys : List α} (hi : L[i]? = some (.row (.slice A xs.length c) E 1 xs.length cs)) (h1 : T.sz = 1) (hr : reps T S cs xs) (hs : reps T S ds ys) (hrd : Rd w sp ds) (hsn : sn = ys.length) (hn : g - l = n) (hlg : l ≤ g) (hgm : g ≤ xs.length) (hDA : ∀ b, A = some ⟨b, 0, none⟩ → l < g → DA = some ⟨b, l, none⟩)
    (k : ∀ a' w' cs' (z : Nat), reps T S cs' (cpy xs l g ys) → St N w0 B ((d, .int .i64 (z : Int)) :: ρ) (L.set i (.row (.slice A (cpy xs l g ys).length c) E 1 (cpy xs l g ys).length cs')) a' w' → wpList P ops Q rest a' w') : wpList P ops Q (o :: rest) a w := by
  have hlc : cs.length = xs.length := by rw [hr.len, h1, Nat.mul_one]
  have hlb : ds.length = ys.length := by rw [hs.len, h1, Nat.mul_one]
  have hln : (ds.take (g - l)).length = min ys.length (g - l) := by rw [List.length_take, hlb, Nat.min_comm]
  have hcl := cpy_len ys hlg hgm
  by_cases h0 : min ys.length (g - l) = 0
  · have hown : w.ownsRow 0 E 1 (.slice A xs.length c) xs.length cs := h.m.ok i _ hi
    refine wpList_copy_nothing hg x y dT sT ho e ht hsz DA sp n dc sn sc (h.k.eval hx) (h.k.eval hy) (by rw [hsn, hn.symm]; exact h0) ?_
    refine k _ _ _ _ (hr.cpy h1 hs l g) ⟨by rw [hd]; exact h.k.put hN, ?_⟩
    have e0 : splice cs l (ds.take (g - l)) = cs := by rw [List.eq_nil_of_length_eq_zero (hln.trans h0)]; simp [splice]
    rw [e0, hcl]
    refine h.m.write hi (x := .row (.slice A xs.length c) E 1 xs.length cs) (Chg.refl w _) ?_ (fun k hk => .inl hk)
    exact hown
  · obtain ⟨b, hA⟩ := h.m.rowHead hi (by omega)
    have hD := hDA b hA (by omega)
    subst hA
    rw [hcl] at k
    exact s_copyR h hg ho hd hN ht hsz hx hy i l hi (ds.take (g - l)) (by rw [hln, hsn, hn]) (fun _ => hD) (hrd.take _) (by rw [hln]; omega) (fun v hv => hs.one v (List.mem_of_mem_take hv)) (fun a' w' h => k a' w' _ _ (hr.cpy h1 hs l g) h)
theorem dA_row {A : Option Addr} {g : Nat} : ∀ b, A = some ⟨b, 0, none⟩ → 0 < g → A = some ⟨b, 0, none⟩ := fun _ e _ => e
theorem dA_sA {A : Option Addr} {c l g sz : Nat} (h1 : sz = 1) (hgc : g ≤ c) : ∀ b, A = some ⟨b, 0, none⟩ → l < g → sA A c l sz = some ⟨b, l, none⟩ := by
  intro b e hl
  subst e h1
  unfold Go.Proofs.Ytohgmggdfmjgnaa.sA
  rw [if_neg (by omega)]
  simp [Addr.add_mid]
/-- the address of an element of a view of an array -/
theorem x_iaddrV (h : Knows N ρ a) {x y : Operand} {t : TypeId} (ho : o.op = .indexAddr t x y) {e : TypeId} (ht : P.underlying t = some (.slice e)) (hs : (P.info? e).map (·.size) = some 1) {G m l n c : Nat} (hx : ev ρ x = some (.slice (vA G m l) n c)) {kd : IntKind} {j : Int} (hy : ev ρ y = some (.int kd j)) {q : Nat} (hj : j = (q : Int)) (hq : q < n) (hlm : l < m) : (execOp a.eval o).run P w = .ok (.value (.pointer (some ⟨G, 0 + (l + q) * 1, none⟩))) w :=
  x_iaddr h ho ht hs (by rw [hx, vA_eq hlm]) hy hj hq (by omega)
/-- append to a slice that is full: a row of one's own -/
theorem q_appendG (h : St N w0 B ρ L a w) (hg : o.guard = none) {s x : Operand} {t : TypeId} (ho : o.op = .call { callee := .builtin .append, args := #[s, x], argTypes := #[t, t] }) (hd : o.dst = some d) (hN : d < N) {e : TypeId} (ht : P.underlying t = some (.slice e)) {z : Value} {bytes : Nat} (hinfo : (P.info? e).map (fun i => (i.zero, i.size, i.bytes)) = some (some z, T.sz, bytes)) (hz1 : z.cells.size = T.sz) (hsz : 0 < T.sz)
    {A A2 : Option Addr} {c c2 : Nat} {l m r : List α} {news : List Value} (hs : ev ρ s = some (.slice A l.length c)) (j : Nat) (hj : L[j]? = some (.sn S)) (hl : slS T S A c l) (hf : c ≤ l.length) (hx : ev ρ x = some (.slice A2 m.length c2)) (hm : reps T S news m) (hr : Rd w A2 news) (hap : appF bytes l m = some r)
    (k : ∀ a' w' A' c' cs', reps T S cs' r → St N w0 B ((d, .slice A' r.length c') :: ρ) (.row (.slice A' r.length c') e T.sz r.length cs' :: L) a' w' → wpList P ops Q rest a' w') : wpList P ops Q (o :: rest) a w := by
  obtain ⟨hm0, hap⟩ := appF_some hap
  obtain ⟨rfl, hb, hml⟩ := app_some hap
  have hnl := hm.len
  have hp : 0 < news.length := by rw [hnl]; exact Nat.mul_pos hm0 hsz
  obtain ⟨ad, rfl, _⟩ := hr 0 news[0] (List.getElem?_eq_getElem hp)
  have hw := h.m.snOK hj
  have hno : A = none → l.length = 0 ∧ c = 0 := fun e => by
    subst e
    have := hl.none_nil hw hsz
    subst this
    exact ⟨rfl, Nat.le_zero.1 hf⟩
  obtain ⟨_, _, vs, hrd, hv⟩ := hl
  cases hq : P.info? e with
  | none => rw [hq] at hinfo; cases hinfo
  | some i =>
    rw [hq] at hinfo
    obtain ⟨hi1, hi2, hi3⟩ : i.zero = some z ∧ i.size = T.sz ∧ i.bytes = bytes := by simpa using hinfo
    refine wpList_append_grows w hg s x t ho e i z T.sz bytes ht hq hi1 hi2 hi3 hz1 hsz A l.length c vs (h.k.eval hs) hno hv.len (fun b hb j u hu => ?_) ad m.length c2 news (h.k.eval hx) hnl (fun j u hu => ?_) hm.one (by omega) hml hb (fun v' w' hown hgr => ?_)
    · obtain ⟨ad', e', h'⟩ := hrd w hw j u hu
      rw [hb] at e'; cases e'; exact h'
    · obtain ⟨ad', e', h'⟩ := hr j u hu
      cases e'; exact h'
    · have hm2 : Mem w0 B (.row v' e T.sz (l.length + m.length) (vs ++ news) :: L) w' := h.m.addNewS ⟨below_of_grown hgr (by simp), hown⟩
      obtain ⟨A', c', e', _, _, _⟩ := hm2.rdRow (i := 0) rfl
      subst e'
      rw [← List.length_append] at hm2 ⊢
      exact k _ w' A' c' _ (hv.append hm) ⟨by rw [hd]; exact h.k.put hN, hm2⟩
end
end Go.Proofs.Ytohgmggdfmjgnaa
