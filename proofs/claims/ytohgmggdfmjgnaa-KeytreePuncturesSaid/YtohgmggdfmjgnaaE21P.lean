/- KeytreePunctures. -/
import Derived.Test.YtohgmggdfmjgnaaE21D
import Derived.Test.YtohgmggdfmjgnaaPs
set_option linter.unusedVariables false
set_option linter.unusedSimpArgs false
namespace Go.Proofs.Ytohgmggdfmjgnaa
open Go.RowKit
theorem same32P (a b : List UInt8) (h : a.length ≤ 200) : chatelaineref01_Same 300 a b = some (decide (a = b)) := same8 300 a b (by omega) (by omega)
theorem leafb_all : ∀ m : Fin 24, ∀ i : Fin 24, i.val < m.val + 1 → path_Below 300 ((m.val + 1 : Nat) : Int) (dpK (m.val + 1) : Int) (i.val : Int) = some ((i.val : Int), ((i.val + 1 : Nat) : Int)) := by decide +kernel
def hitE (e : Nd) (fr to : Int) : Prop := (e.a : Int) < to ∧ fr < (e.b : Int)
theorem pHits {n : Nat} {e : Nd} (E : GoodE n e) (fr to : Int) : keytree_hits 300 (n : Int) (e.l : Int) (e.k : Int) fr to = some (decide ((e.a : Int) < to) && decide (fr < (e.b : Int))) := by
  unfold keytree_hits
  exact (bnd_eqW E.below _).trans rfl
theorem calm {n : Nat} {K J : KyT} {fr to : Int} (hno : ∀ e, GoodE n e → ¬ hitE e fr to → J e.l e.k = K e.l e.k) :
    ∀ {d l i a b : Nat}, goodT n d l i a b = true → J l i = K l i → ¬ ((a : Int) < to ∧ fr < (b : Int)) → ∀ e ∈ evs n d l i, valK J e = valK K e := by
  intro d
  induction d with
  | zero => intro l i a b h; exact absurd h (by simp [goodT])
  | succ d ih =>
    intro l i a b h hp hab e he
    obtain ⟨_, _, hk⟩ := goodT_succ h
    rw [evs_succ, List.mem_flatMap] at he
    obtain ⟨x, hx, he⟩ := he
    obtain ⟨g1, g2, g3, g4⟩ := hk x hx
    obtain ⟨e1, e2⟩ := kids_par hx
    have hxn : ¬ hitE x fr to := by unfold hitE; omega
    have hxe := hno x g1 hxn
    rcases List.mem_cons.mp he with rfl | he
    · unfold valK; rw [e1, e2, hp, hxe]
    · exact ih g4 hxe hxn e he
theorem punc (n : Nat) (tree : List (List UInt8)) (fr to : Int) (seed : List UInt8) (K J : KyT) (hK : ∀ l k, (K l k).length = 32) (hJ : ∀ l k, (J l k).length = 32)
    (hfr : ∀ e, GoodE n e → hitE e fr to → keytree_fresh 300 seed (e.l : Int) (e.k : Int) = some (J e.l e.k)) (hno : ∀ e, GoodE n e → ¬ hitE e fr to → J e.l e.k = K e.l e.k) :
    ∀ (d kf l i a b : Nat) (out : List (List UInt8)), goodT n d l i a b = true → d ≤ kf → ((evs n d l i).map (·.p)).Nodup → out.length = toK n → Had K (evs n d l i) tree → Had K (evs n d l i) out →
      ∃ out', keytree_Puncture_1_self11_k 300 kf (l : Int) (i : Int) (K l i) (J l i) (n : Int) tree 0 fr to out seed = some (0, out') ∧ Laid J (evs n d l i) out out' := by
  intro d
  induction d with
  | zero => intro kf l i a b out h; exact absurd h (by simp [goodT])
  | succ d ih =>
    intro kf l i a b out hg hkf hnd hlen hT hO
    obtain ⟨kf, rfl⟩ : ∃ m, kf = m + 1 := ⟨kf - 1, by omega⟩
    obtain ⟨hc, hl, he⟩ := goodT_succ hg
    have loop : ∀ (rs pre : List Nd) (k : Nat) (out : List (List UInt8)), kids n l i = pre ++ rs → rs.length < k → ((rs.flatMap (subK n d)).map (·.p)).Nodup → out.length = toK n → Had K (rs.flatMap (subK n d)) tree → Had K (rs.flatMap (subK n d)) out →
        ∃ out', keytree_Puncture_1_self11_l0 (keytree_Puncture_1_self11_k 300 kf) 300 (K l i) (J l i) (n : Int) tree fr to seed (toI ((kids n l i).map (·.p))) k (pre.length : Int) 0 out = some (.inr (0, out')) ∧ Laid J (rs.flatMap (subK n d)) out out' := by
      intro rs
      induction rs with
      | nil =>
        intro pre k out hp hk hnd hlen hT hO
        obtain ⟨k, rfl⟩ : ∃ m, k = m + 1 := ⟨k - 1, by omega⟩
        rw [keytree_Puncture_1_self11_l0, if_neg (by rw [toI_len, List.length_map, hp]; simp)]
        exact ⟨out, rfl, Laid.nil⟩
      | cons e rs ihr =>
        intro pre k out hp hk hnd hlen hT hO
        obtain ⟨k, rfl⟩ : ∃ m, k = m + 1 := ⟨k - 1, by omega⟩
        have hm : e ∈ kids n l i := by rw [hp]; simp
        obtain ⟨E, _, _, hgt⟩ := he e hm
        obtain ⟨e1, e2⟩ := kids_par hm
        have hlt : pre.length < (toI ((kids n l i).map (·.p))).length := by rw [toI_len, List.length_map, hp]; simp
        have hx : (toI ((kids n l i).map (·.p)))[pre.length]? = some (e.p : Int) := toI_at (by rw [hp]; simp)
        obtain ⟨n1, n2, n3, n4⟩ := nd_cons hnd
        rw [List.flatMap_cons] at hT hO
        have hTe : tree[e.p]? = some (wrapL (K l i) (K e.l e.k)) := by
          have := hT e (List.mem_append_left _ (List.mem_cons_self ..))
          rw [valK, e1, e2] at this; exact this
        have hTs : Had K (evs n d e.l e.k) tree := fun y hy => hT y (List.mem_append_left _ (List.mem_cons_of_mem _ hy))
        have hOs : Had K (evs n d e.l e.k) out := fun y hy => hO y (List.mem_append_left _ (List.mem_cons_of_mem _ hy))
        have key : ∃ o2, Laid J (subK n d e) out o2 ∧ ∀ f : Sum (Int × List (List UInt8)) (Int × List (List UInt8)) → Option (Sum (Int × List (List UInt8)) (Int × List (List UInt8))),
            ((keytree_hits 300 (n : Int) (e.l : Int) (e.k : Int) fr to).bind fun x125 => if (!x125) = true then ((wrap_Wrap 300 (J l i) (K e.l e.k)).bind fun x128 => (ix out.length (e.p : Int)).bind fun m137 => some (.inr ((0 : Int), (out.set m137 x128.1)))) else ((keytree_fresh 300 seed (e.l : Int) (e.k : Int)).bind fun x155 => (wrap_Wrap 300 (J l i) x155).bind fun x164 => (ix out.length (e.p : Int)).bind fun m173 => (keytree_Puncture_1_self11_k 300 kf (e.l : Int) (e.k : Int) (K e.l e.k) x155 (n : Int) tree 0 fr to (out.set m173 x164.1) seed).bind fun x186 => some (.inr (x186.1, x186.2))) : Option (Sum (Int × List (List UInt8)) (Int × List (List UInt8)))).bind f = f (.inr (0, o2)) := by
          by_cases hh : hitE e fr to
          · have hv : wrapL (J l i) (J e.l e.k) = valK J e := by unfold valK; rw [e1, e2]
            have L1 := Laid.one (o := out) e hv (by rw [hlen]; exact E.lt)
            obtain ⟨o2, h2, L2⟩ := ih kf e.l e.k e.a e.b (out.set e.p (wrapL (J l i) (J e.l e.k))) hgt (by omega) n1 (by rw [List.length_set, hlen]) hTs (fun y hy => by rw [L1.off _ (fun z hz => n3 z hz y hy)]; exact hOs y hy)
            refine ⟨o2, L1.app L2 n3, fun f => ?_⟩
            refine bnd_eqW ?_ f
            refine (bnd_eqW (pHits E fr to) _).trans ?_
            rw [if_neg (by unfold hitE at hh; simp; exact hh)]
            refine (bnd_eqW (hfr e E hh) _).trans ?_
            refine (bnd_eqW (wrap32 (hJ _ _) (hJ _ _)) _).trans ?_
            refine (bnd_eqW (ix_nat (by rw [hlen]; exact E.lt)) _).trans ?_
            exact (bnd_eqW h2 _).trans rfl
          · have hje := hno e E hh
            have hv : wrapL (J l i) (K e.l e.k) = valK J e := by unfold valK; rw [e1, e2, hje]
            have L1 := Laid.one (o := out) e hv (by rw [hlen]; exact E.lt)
            have L2 : Laid J (evs n d e.l e.k) (out.set e.p (wrapL (J l i) (K e.l e.k))) (out.set e.p (wrapL (J l i) (K e.l e.k))) := ⟨rfl, fun y hy => by
              rw [L1.off _ (fun z hz => n3 z hz y hy), hOs y hy, calm hno hgt hje hh y hy], fun _ _ => rfl⟩
            refine ⟨_, L1.app L2 n3, fun f => ?_⟩
            refine bnd_eqW ?_ f
            refine (bnd_eqW (pHits E fr to) _).trans ?_
            rw [if_pos (by unfold hitE at hh; simp; omega)]
            refine (bnd_eqW (wrap32 (hJ _ _) (hK _ _)) _).trans ?_
            exact (bnd_eqW (ix_nat (by rw [hlen]; exact E.lt)) _).trans rfl
        obtain ⟨o2, L12, hkey⟩ := key
        obtain ⟨o3, h3, L3⟩ := ihr (pre ++ [e]) k o2 (by rw [hp]; simp) (by simp at hk; omega) n2 (by rw [L12.len, hlen]) (fun y hy => hT y (List.mem_append_right _ hy)) (fun y hy => by rw [L12.off _ (fun z hz => n4 z hz y hy)]; exact hO y (List.mem_append_right _ hy))
        refine ⟨o3, ?_, L12.app L3 n4⟩
        rw [keytree_Puncture_1_self11_l0, if_pos (by omega)]
        refine Eq.trans (congrArg (fun o => Option.bind o _) ?_) ((hkey _).trans ?_)
        · refine (bnd_eqW (ix_nat hlt) _).trans ?_
          refine (bnd_eqW hx _).trans ?_
          refine (bnd_eqW E.node _).trans ?_
          refine (bnd_eqW ((idx_nat _ _).trans hTe) _).trans ?_
          refine (bnd_eqW (unwrap32 (hK _ _) (hK _ _)) _).trans ?_
          refine (bnd_eqW (x := (0 : Int)) (by rw [if_neg (by simp)]) _).trans ?_
          rw [if_neg (by simp)]
        · dsimp only
          rw [w_upC _ (by rw [toI_len, List.length_map] at hlt; omega), show pre.length + 1 = (pre ++ [e]).length by simp]
          exact h3
    obtain ⟨o', h1, L⟩ := loop (kids n l i) [] 300 out rfl (by omega) hnd hlen hT hO
    refine ⟨o', ?_, L⟩
    rw [keytree_Puncture_1_self11_k]
    refine (bnd_eqW hc _).trans ?_
    exact (bnd_eqW h1 _).trans rfl
/-! the law -/
def KP (n : Nat) (root seed next other : List UInt8) (fr to : Int) : KyT := fun l k =>
  if l = 0 then next else if keytree_hits 300 (n : Int) (l : Int) (k : Int) fr to = some true then frN other l k else KM root seed l k
theorem KP_len {root next : List UInt8} (hr : root.length = 32) (hx : next.length = 32) (n : Nat) (seed other : List UInt8) (fr to : Int) (l k : Nat) : (KP n root seed next other fr to l k).length = 32 := by
  unfold KP; (repeat' split)
  · exact hx
  · exact frN_len _ _ _
  · exact KM_len hr _ _ _
theorem pPuncture {n : Nat} (hn : 1 ≤ n ∧ n ≤ 24) {root seed next other : List UInt8} (hr : root.length = 32) (hx : next.length = 32) (ho : 1 ≤ other.length ∧ other.length ≤ 1000) {fr to : Int} (h1 : 0 ≤ fr) (h2 : fr < to) (h3 : to ≤ (n : Int)) {t : List (List UInt8)} (T : TreeK n (KM root seed) t) :
    ∃ u, keytree_Puncture 300 root (n : Int) t fr to next other = some (u, 0) ∧ TreeK n (KP n root seed next other fr to) u := by
  obtain ⟨_, _, _, _, _, h6, h7, _⟩ := kFacts hn
  have hto := toK_le hn.2
  have hok := T.ok hn (KM_len hr seed)
  obtain ⟨u, e, L⟩ := punc n t fr to other (KM root seed) (KP n root seed next other fr to) (KM_len hr seed) (KP_len hr hx n seed other fr to)
    (fun e E hh => by
      have := E.l1
      unfold KP
      rw [if_neg (by omega), pHits E, if_pos (by unfold hitE at hh; rw [decide_eq_true hh.1, decide_eq_true hh.2]; rfl)]
      exact pFresh other ho e.l e.k E.l64 E.k64)
    (fun e E hh => by
      have := E.l1
      unfold KP
      rw [if_neg (by omega), pHits E, if_neg (by unfold hitE at hh; simp; omega)]) 5 300 0 0 0 n t h6 (by omega) h7 T.len T.had T.had
  refine ⟨u, ?_, tree_of T.len L⟩
  unfold keytree_Puncture
  refine (bnd_eqW (pRight hn t (by rw [T.len]; omega)) _).trans ?_
  rw [hok, if_neg (by simp only [Bool.or_eq_true, decide_eq_true_eq, Bool.not_true, Bool.false_eq_true, false_or]; omega)]
  refine (bnd_eqW (pKeys other [root, next] (by simp)) _).trans ?_
  rw [if_neg (by simp [hr, hx]; exact List.ne_nil_of_length_pos (by omega))]
  refine (bnd_eqW (show slices_Clone_____byte___byte 300 t = some t from ?_) _).trans ?_
  · unfold slices_Clone_____byte___byte
    exact (bnd_eqW (app24 [] t (by rw [T.len]; simp; omega)) _).trans rfl
  · have e' : keytree_Puncture_1_self11 300 0 0 root next (n : Int) t 0 fr to t other = some (0, u) := e
    refine (bnd_eqW e' _).trans ?_
    rw [if_neg (by simp)]
theorem punc_arg {n : Nat} (hn : 1 ≤ n ∧ n ≤ 24) (root next other : List UInt8) (t : List (List UInt8)) (ht : t.length < 250) {fr to : Int} (h : fr < 0 ∨ to ≤ fr ∨ (n : Int) < to) : keytree_Puncture 300 root (n : Int) t fr to next other = some ([], 2) := by
  unfold keytree_Puncture
  refine (bnd_eqW (pRight hn t ht) _).trans ?_
  rw [if_pos]
  simp only [Bool.or_eq_true, decide_eq_true_eq]
  omega
theorem punc_key {n : Nat} (hn : 1 ≤ n ∧ n ≤ 24) {root next other : List UInt8} (t : List (List UInt8)) (ht : t.length < 250) (hok : okT n t = true) {fr to : Int} (h1 : 0 ≤ fr) (h2 : fr < to) (h3 : to ≤ (n : Int)) (h : next.length ≠ 32 ∨ other.length = 0) : keytree_Puncture 300 root (n : Int) t fr to next other = some ([], 20) := by
  unfold keytree_Puncture
  refine (bnd_eqW (pRight hn t ht) _).trans ?_
  rw [hok, if_neg (by simp only [Bool.or_eq_true, decide_eq_true_eq, Bool.not_true, Bool.false_eq_true, false_or]; omega)]
  refine (bnd_eqW (pKeys other [root, next] (by simp)) _).trans ?_
  rw [if_pos]
  rcases h with h | h
  · simp [h]
  · simp [h]
theorem punc_l0 {n : Nat} (hn : 1 ≤ n ∧ n ≤ 24) {root seed next other : List UInt8} {fr to : Int} {b : Int} (hr : root.length = 32) (hx : next.length = 32) (hs : 1 ≤ seed.length ∧ seed.length ≤ 1000) (ho : 1 ≤ other.length ∧ other.length ≤ 1000)
    {t u : List (List UInt8)} (T : TreeK n (KM root seed) t) (U : TreeK n (KP n root seed next other fr to) u) :
    ∀ (d k i : Nat), i + d = n → d < k → chatelainelaw21_KeytreePunctures_l0 300 (root, seed, (n : Int), fr, to, next, other, b) (t, 0) (u, 0) k (i : Int) = some (.inr ()) := by
  have hdn := dpK_b n
  obtain ⟨_, _, _, hln, _⟩ := kFacts hn
  intro d
  induction d with
  | zero =>
    intro k i hi hk
    obtain ⟨k, rfl⟩ : ∃ m, k = m + 1 := ⟨k - 1, by omega⟩
    rw [chatelainelaw21_KeytreePunctures_l0, if_neg (by dsimp only; omega)]
  | succ d ih =>
    intro k i hi hk
    obtain ⟨k, rfl⟩ : ∃ m, k = m + 1 := ⟨k - 1, by omega⟩
    rw [chatelainelaw21_KeytreePunctures_l0, if_pos (by dsimp only; omega)]
    dsimp only
    have hkm : KM root seed (dpK n) i = frN seed (dpK n) i := by unfold KM; rw [if_neg (by omega)]
    have hl := pLeaf hn (KM_len hr seed) T (i := i) (by omega)
    rw [show KM root seed 0 0 = root from rfl, hkm] at hl
    refine (bnd_eqW hl _).trans ?_
    have hu := pLeaf hn (KP_len hr hx n seed other fr to) U (i := i) (by omega)
    rw [show KP n root seed next other fr to 0 0 = next from rfl] at hu
    refine (bnd_eqW hu _).trans ?_
    have hb : path_Below 300 (n : Int) (dpK n : Int) (i : Int) = some ((i : Int), ((i + 1 : Nat) : Int)) := by
      obtain ⟨m, rfl⟩ : ∃ m, n = m + 1 := ⟨n - 1, by omega⟩
      exact leafb_all ⟨m, by omega⟩ ⟨i, by omega⟩ (by show i < m + 1; omega)
    have hh : keytree_hits 300 (n : Int) (dpK n : Int) (i : Int) fr to = some (decide ((i : Int) < to) && decide (fr < ((i + 1 : Nat) : Int))) := by
      unfold keytree_hits
      exact (bnd_eqW hb _).trans rfl
    refine (bnd_eqW (x := KP n root seed next other fr to (dpK n) i) ?_ _).trans ?_
    · unfold KP
      rw [if_neg (show ¬ dpK n = 0 by omega), hh]
      by_cases hc : fr ≤ (i : Int) ∧ (i : Int) < to
      · rw [if_pos (by simp only [Bool.and_eq_true, decide_eq_true_eq]; omega), if_pos (by rw [decide_eq_true hc.2, decide_eq_true (by omega)]; rfl)]
        refine (bnd_eqW hln _).trans ?_
        exact (bnd_eqW (rFresh other ho (dpK n) i (by omega) (by omega)) _).trans rfl
      · rw [if_neg (by simp only [Bool.and_eq_true, decide_eq_true_eq]; omega), if_neg (by simp; omega), hkm]
    refine (bnd_eqW (x := false) ?_ _).trans ?_
    · rw [if_neg (by simp)]
      exact (bnd_eqW (same32P _ _ (by rw [KP_len hr hx]; omega)) _).trans (by simp)
    refine (bnd_eqW (x := false) ?_ _).trans ?_
    · rw [if_neg (by simp)]
      refine (bnd_eqW hln _).trans ?_
      refine (bnd_eqW (rFresh seed hs (dpK n) i (by omega) (by omega)) _).trans ?_
      exact (bnd_eqW (same32P _ _ (by rw [frN_len]; omega)) _).trans (by simp)
    rw [if_neg (by simp), w_upC _ (by omega)]
    exact ih k (i + 1) (by omega) (by omega)
theorem chatelainelaw21_KeytreePunctures_true (x : List UInt8 × List UInt8 × Int × Int × Int × List UInt8 × List UInt8 × Int) (hx : ∃ a b, (tyP (tyL ty8) (tyP (tyL ty8) (tyP tyI (tyP tyI (tyP tyI (tyP (tyL ty8) (tyP (tyL ty8) tyI))))))).rep a b x) : ∃ Fu, chatelainelaw21_KeytreePunctures Fu x = some true := by
  obtain ⟨root, seed, a, fr, to, next, other, b⟩ := x
  refine ⟨300, ?_⟩
  unfold chatelainelaw21_KeytreePunctures
  refine (bnd_eqW awake21 _).trans ?_
  rw [if_neg (by decide)]
  refine (bnd_eqW (by unfold chatelainelaw21_few; rfl) _).trans ?_
  dsimp only
  split
  · rfl
  · rename_i hg
    simp only [Bool.not_eq_true', Bool.not_eq_false, Bool.and_eq_true, decide_eq_true_eq] at hg
    by_cases ha : 1 ≤ a ∧ a ≤ 4096
    · obtain ⟨n, rfl⟩ : ∃ n : Nat, a = (n : Int) := ⟨a.toNat, by omega⟩
      have hn : 1 ≤ n ∧ n ≤ 24 := by omega
      by_cases hrs : root.length ≠ 32 ∨ seed.length = 0
      · refine (bnd_eqW (make_key hn hrs) _).trans ?_
        rfl
      · have hr : root.length = 32 := by omega
        have hs : 1 ≤ seed.length ∧ seed.length ≤ 1000 := by omega
        obtain ⟨t, e, T⟩ := pMake hn hr hs
        have hok := T.ok hn (KM_len hr seed)
        have hto := toK_le hn.2
        have htl := T.len
        refine (bnd_eqW e _).trans ?_
        rw [if_neg (by simp)]
        by_cases hft : fr < 0 ∨ to ≤ fr ∨ (n : Int) < to
        · refine (bnd_eqW (punc_arg hn root next other t (by omega) hft) _).trans ?_
          rw [if_pos (by simp only [Bool.or_eq_true, decide_eq_true_eq]; omega)]
          rfl
        · have f1 : 0 ≤ fr := by omega
          have f2 : fr < to := by omega
          have f3 : to ≤ (n : Int) := by omega
          by_cases hno : next.length ≠ 32 ∨ other.length = 0
          · refine (bnd_eqW (punc_key hn t (by omega) hok f1 f2 f3 hno) _).trans ?_
            rw [if_neg (by simp only [Bool.or_eq_true, decide_eq_true_eq]; omega), if_pos (by simp only [Bool.or_eq_true, decide_eq_true_eq]; omega)]
            rfl
          · have hx32 : next.length = 32 := by omega
            have ho : 1 ≤ other.length ∧ other.length ≤ 1000 := by omega
            obtain ⟨u, e2, U⟩ := pPuncture hn hr hx32 ho f1 f2 f3 T
            have hok2 := U.ok hn (KP_len hr hx32 n seed other fr to)
            have hul := U.len
            refine (bnd_eqW e2 _).trans ?_
            rw [if_neg (by simp only [Bool.or_eq_true, decide_eq_true_eq]; omega), if_neg (by simp only [Bool.or_eq_true, decide_eq_true_eq]; omega)]
            refine (bnd_eqW (x := false) ?_ _).trans ?_
            · rw [if_neg (by simp)]
              exact (bnd_eqW (rRight hn u (by omega)) _).trans (by rw [hok2]; rfl)
            rw [if_neg (by simp)]
            refine (bnd_eqW (punc_l0 hn hr hx32 hs ho T U n 300 0 (by omega) (by omega)) _).trans ?_
            rfl
    · refine (bnd_eqW (make_arg ha root seed) _).trans ?_
      rfl
end Go.Proofs.Ytohgmggdfmjgnaa
