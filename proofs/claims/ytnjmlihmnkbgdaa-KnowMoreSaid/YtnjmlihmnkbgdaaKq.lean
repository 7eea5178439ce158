/- Kq: Go functions as plain functions, and that they are so (written by xt.py). -/
import Derived.Test.YtnjmlihmnkbgdaaKf
import Derived.Test.YtnjmlihmnkbgdaaSo
import Derived.Test.YtnjmlihmnkbgdaaIv
import Derived.Test.YtnjmlihmnkbgdaaSv
import Derived.Test.YtnjmlihmnkbgdaaGw
import Derived.Test.YtnjmlihmnkbgdaaPc
set_option linter.unusedVariables false
set_option linter.unusedSimpArgs false
namespace Go.Proofs.Ytnjmlihmnkbgdaa
open Go.RowKit
def slices_AppendSeq___int_int_nils0_iter1_enc1_int_r0 (Fu : Nat) : List Int → (List Int) → Option ((List Int))
  | [], x5 => some x5
  | z2 :: rest, x5 => (app 8 x5 ([z2])).bind fun x16 => slices_AppendSeq___int_int_nils0_iter1_enc1_int_r0 Fu rest x16
def slices_AppendSeq___int_int_nils0_iter1_enc1_int (Fu : Nat) (a1 : List (Int)) : Option ((List Int)) :=
  (slices_AppendSeq___int_int_nils0_iter1_enc1_int_r0 Fu a1 ([])).bind fun x5 => some x5
set_option maxRecDepth 100000 in
set_option maxHeartbeats 2000000 in
theorem slices_AppendSeq___int_int_nils0_iter1_enc1_int_ok (Fu : Nat) {S0 : Snap} (ita1 : Value) (a1 : List (Int)) (hita1 : IterV Try.prog enc1 ita1 a1 S0) (halla1 : ∀ z ∈ a1, r64 z) (r : (List Int)) (hf : slices_AppendSeq___int_int_nils0_iter1_enc1_int Fu a1 = some r) (w0 : World) (hm : Mem w0 (ownL ([] ++ [.sn S0])) ([] ++ [.sn S0]) w0) :
    Calls Try.prog 36 #[.slice none 0 0, ita1] w0 (Ret w0 S0 [] (fun v L1 S1 => ∃ (A22 : Option Addr), ∃ (c23 : Nat), ∃ (cs24 : List Value), v = .slice A22 r.length c23 ∧ L1 = [.row (.slice A22 r.length c23) 3 1 r.length cs24] ∧ reps tyI S1 cs24 r ∧ True)) := by
  unfold slices_AppendSeq___int_int_nils0_iter1_enc1_int at hf
  refine c_enterR Try.func36 rfl 13 rfl (by simp) _ hm _ rfl (fun a h => ?_)
  refine c_rs ?_
  refine s_box h rfl rfl rfl (by decide) rfl (cs := [.slice none 0 0]) (by rfl) (fun a w g1 h => ?_)
  refine sAV h (fun a h => ?_)
  refine l_end ?_
  refine wp_seq ?_
  refine c_rs ?_
  refine sMV h (fun a h => ?_)
  refine l_end ?_
  have h := h.mem (h.m.nilrow 3 1)
  obtain ⟨o10, hl11, hf⟩ := bsome hf
  refine wp_block ?_
  have h := h.pick [1, 0, 2] (by decide) rfl
  refine c_range (xs := a1) (encs := enc1) h rfl hita1 (fun _ => rfl) (by decide) (fun pre L => ∃ (rest12 : List Int), ∃ (x5 : List Int), ∃ (A6 : Option Addr), ∃ (c7 : Nat), ∃ (cs8 : List Value), a1 = pre ++ rest12 ∧ slices_AppendSeq___int_int_nils0_iter1_enc1_int_r0 Fu rest12 x5 = some o10 ∧ reps tyI S0 cs8 x5 ∧ L = [.box g1 23 ([.slice A6 x5.length c7]), .row (.slice A6 x5.length c7) 3 1 x5.length cs8, .sn S0]) (fun _ => False) (fun pre L hI => ?_) ⟨a1, [], none, 0, [], rfl, hl11, (show reps tyI S0 [] [] from rfl), rfl⟩ (fun z2 => [(2, .pointer (some ⟨g1, 0, none⟩)), (4, .slice none 0 0), (5, .int .i64 z2)]) (fun l D o1 o2 z2 L a w h => ?_) (fun l D o1 o2 pre z2 rest L a w hxz hI h => ?_) (fun D L w hI h => ?_) (fun D L w hI h => ?_)
  · obtain ⟨rest12, x5, A6, c7, cs8, hxs, hl13, hq9, rfl⟩ := hI
    simp
  · have h : St 13 w0 (ownL ([] ++ [.sn S0])) ([(7, .int .i64 z2)] ++ _) _ a w := h
    refine m_r rfl ?_
    refine sAV h (fun a h => ?_)
    refine l_nil ?_
    exact e_thenN (h.has (by exact ⟨rfl, rfl, rfl, trivial⟩))
  · obtain ⟨rest12, x5, A6, c7, cs8, hxs, hl13, hq9, rfl⟩ := hI
    obtain rfl := List.append_cancel_left (hxs.symm.trans hxz)
    have hz3 := halla1 z2 (by rw [hxz]; simp)
    rw [slices_AppendSeq___int_int_nils0_iter1_enc1_int_r0] at hl13
    have h : St 13 w0 (ownL ([] ++ [.sn S0])) _ [.obj l o1, .obj D o2, .box g1 23 ([.slice A6 x5.length c7]), .row (.slice A6 x5.length c7) 3 1 x5.length cs8, .sn S0] a w := h
    refine m_block ?_
    refine m_r rfl ?_
    refine s_x h rfl rfl (by decide) (x_ld h.k rfl Try.underlying23 rfl rfl ((h.m.cell (i := 2) rfl 0).trans rfl)) (fun a h => ?_)
    refine sMV h (fun a h => ?_)
    refine q_bslice (T := tyI) (S := S0) h rfl rfl rfl (by decide) Try.underlying23 zi_int (by decide) (by decide) (by decide) (by decide) [.int .i64 z2] rfl rfl (C := [[.int .i64 z2]]) rfl (xs := [z2]) ⟨[.int .i64 z2], _, rfl, ⟨rfl, hz3⟩, rfl⟩ (by intro c hc; simp only [List.mem_cons, List.not_mem_nil, or_false] at hc; subst hc; rfl) (fun a w A14 h => ?_)
    have hb15 : reps tyI S0 ([[.int .i64 z2]] : List (List Value)).flatten [z2] := ⟨[.int .i64 z2], _, rfl, ⟨rfl, hz3⟩, rfl⟩
    obtain ⟨x16, h17, hl13⟩ := bsome hl13
    refine q_append (T := tyI) (S := S0) h rfl rfl rfl (by decide) Try.underlying23 zb_int rfl (by decide) rfl 4 rfl hq9 rfl hb15 (h.m.rdRowA (i := 0) rfl) h17 (fun a w A18 c19 cs20 hq21 h => ?_)
    refine s_stb h rfl rfl rfl sz_Sint rfl rfl rfl 3 rfl (by first | decide | simp) (fun a w h => ?_)
    refine l_nil ?_
    refine e_blkN ?_
    have h := h.pick [1, 2, 3, 4, 5] (by decide) rfl
    exact RPost.n _ ⟨rest, x16, A18, c19, cs20, (by rw [hxz]; simp), hl13, hq21, rfl⟩ h.m
  · obtain ⟨rest12, x5, A6, c7, cs8, hxs, hl13, hq9, rfl⟩ := hI
    obtain rfl : rest12 = [] := by simpa using hxs
    rw [slices_AppendSeq___int_int_nils0_iter1_enc1_int_r0] at hl13
    obtain rfl := Option.some.inj hl13
    try dsimp only at hf
    refine e_blkN ?_
    refine e_thenN ?_
    refine tail_M ?_
    have h : St 13 w0 (ownL ([] ++ [.sn S0])) _ [.obj D (.deferred (some [])), .box g1 23 ([.slice A6 x5.length c7]), .row (.slice A6 x5.length c7) 3 1 x5.length cs8, .sn S0] a w := h
    refine m_rs rfl ?_
    refine s_x h rfl rfl (by decide) (x_ld h.k rfl Try.underlying23 rfl rfl ((h.m.cell (i := 1) rfl 0).trans rfl)) (fun a h => ?_)
    refine sAV h (fun a h => ?_)
    refine l_nil (e_thenN ?_)
    refine m_ret ?_
    rw [← Option.some.inj hf]
    refine r_retT h (fun w h => ?_)
    exact r_ret1 h rfl (rv_tmp h rfl) ⟨_, [.row (.slice A6 x5.length c7) 3 1 x5.length cs8], _, rfl, ⟨A6, c7, cs8, rfl, rfl, hq9, trivial⟩, rfl, (Up.refl _ _ _), (h.m.pick [1, 2] _ (by decide) rfl)⟩
  · exact hI.elim
def slices_Collect_int_iter0_enc1_int (Fu : Nat) (a0 : List (Int)) : Option ((List Int)) :=
  (slices_AppendSeq___int_int_nils0_iter1_enc1_int Fu a0).bind fun x1 => some x1
set_option maxRecDepth 100000 in
set_option maxHeartbeats 2000000 in
theorem slices_Collect_int_iter0_enc1_int_ok (Fu : Nat) {S0 : Snap} (ita0 : Value) (a0 : List (Int)) (hita0 : IterV Try.prog enc1 ita0 a0 S0) (halla0 : ∀ z ∈ a0, r64 z) (r : (List Int)) (hf : slices_Collect_int_iter0_enc1_int Fu a0 = some r) (w0 : World) (hm : Mem w0 (ownL ([] ++ [.sn S0])) ([] ++ [.sn S0]) w0) :
    Calls Try.prog 30 #[ita0] w0 (Ret w0 S0 [] (fun v L1 S1 => ∃ (A9 : Option Addr), ∃ (c10 : Nat), ∃ (cs11 : List Value), v = .slice A9 r.length c10 ∧ L1 = [.row (.slice A9 r.length c10) 3 1 r.length cs11] ∧ reps tyI S1 cs11 r ∧ True)) := by
  unfold slices_Collect_int_iter0_enc1_int at hf
  refine c_enterM Try.func30 rfl 5 rfl (by simp) _ hm _ rfl (fun a h => ?_)
  refine c_rs ?_
  refine sAV h (fun a h => ?_)
  refine l_end ?_
  refine c_rs ?_
  refine sMV h (fun a h => ?_)
  obtain ⟨x1, h2, hf⟩ := bsome hf
  have hX := slices_AppendSeq___int_int_nils0_iter1_enc1_int_ok Fu (S0 := snapAll _) ita0 a0 (hita0.mono (h.m.leAll (i := 0) rfl)) halla0 _ h2 _ h.startAll
  refine q_callX hX h rfl rfl rfl (by decide) Try.func36 rfl rfl rfl (fun a w v L1 S1 hR hb1 h => ?_)
  obtain ⟨A4, c5, cs6, rfl, rfl, hq7, _⟩ := hR
  have hq8 := hq7.fl (S' := S0) fl_I
  refine sAV h (fun a h => ?_)
  refine l_end ?_
  refine wp_ret ?_
  rw [← Option.some.inj hf]
  exact r_ret1 h rfl (rv_tmp h rfl) ⟨_, [.row (.slice A4 x1.length c5) 3 1 x1.length cs6], _, rfl, ⟨A4, c5, cs6, rfl, rfl, hq8, trivial⟩, rfl, (Up.refl _ _ _), h.m⟩
def slices_Sorted_int_iter0_enc1_int (Fu : Nat) (a0 : List (Int)) : Option ((List Int)) :=
  (slices_Collect_int_iter0_enc1_int Fu a0).bind fun x1 => (srt x1).bind fun x14 => some x14
set_option maxRecDepth 100000 in
set_option maxHeartbeats 2000000 in
theorem slices_Sorted_int_iter0_enc1_int_ok (Fu : Nat) {S0 : Snap} (ita0 : Value) (a0 : List (Int)) (hita0 : IterV Try.prog enc1 ita0 a0 S0) (halla0 : ∀ z ∈ a0, r64 z) (r : (List Int)) (hf : slices_Sorted_int_iter0_enc1_int Fu a0 = some r) (w0 : World) (hm : Mem w0 (ownL ([] ++ [.sn S0])) ([] ++ [.sn S0]) w0) :
    Calls Try.prog 22 #[ita0] w0 (Ret w0 S0 [] (fun v L1 S1 => ∃ (A17 : Option Addr), ∃ (c18 : Nat), ∃ (cs19 : List Value), v = .slice A17 r.length c18 ∧ L1 = [.row (.slice A17 r.length c18) 3 1 r.length cs19] ∧ reps tyI S1 cs19 r ∧ True)) := by
  unfold slices_Sorted_int_iter0_enc1_int at hf
  refine c_enterM Try.func22 rfl 9 rfl (by simp) _ hm _ rfl (fun a h => ?_)
  refine c_rs ?_
  refine sAV h (fun a h => ?_)
  refine l_end ?_
  refine c_rs ?_
  refine sMV h (fun a h => ?_)
  obtain ⟨x1, h2, hf⟩ := bsome hf
  have hX := slices_Collect_int_iter0_enc1_int_ok Fu (S0 := snapAll _) ita0 a0 (hita0.mono (h.m.leAll (i := 0) rfl)) halla0 _ h2 _ h.startAll
  refine q_callX hX h rfl rfl rfl (by decide) Try.func30 rfl rfl rfl (fun a w v L1 S1 hR hb1 h => ?_)
  obtain ⟨A4, c5, cs6, rfl, rfl, hq7, _⟩ := hR
  have hq8 := hq7.fl (S' := S0) fl_I
  refine sAV h (fun a h => ?_)
  refine l_end ?_
  refine c_rs ?_
  refine sMV h (fun a h => ?_)
  obtain ⟨x14, h15, hf⟩ := bsome hf
  have hX := sort_ok (S0 := S0) hq8 h15 _ (h.sub (Ls := [.row (.slice A4 x1.length c5) 3 1 x1.length cs6]))
  refine q_callY (Ls := [.row (.slice A4 x1.length c5) 3 1 x1.length cs6]) hX h (Up.refl _ _ _) rfl rfl rfl (by decide) Try.func31 rfl rfl rfl (fun a w v L1 S9 hR le11 up10 h => ?_)
  obtain ⟨cs12, rfl, rfl, hq13, hl16⟩ := hR
  rw [← hl16] at h
  refine l_end ?_
  refine c_rs ?_
  refine sMV h (fun a h => ?_)
  refine sAV h (fun a h => ?_)
  refine l_end ?_
  refine wp_ret ?_
  rw [← Option.some.inj hf]
  exact r_ret1 h rfl (rv_tmp h rfl) ⟨_, [.row (.slice A4 x14.length c5) 3 1 x14.length cs12], _, rfl, ⟨A4, c5, cs12, rfl, rfl, hq13, trivial⟩, rfl, up10, h.m⟩
def know_Set_List (Fu : Nat) (a0 : (List (Int × Int × Int)) × (List Bool) × (List Int) × Bool) : Option ((List Int)) :=
  (know_Set_made Fu a0).bind fun x1 => if (!x1) = true then (some ([])) else ((slices_Values___int_int Fu a0.2.2.1).bind fun x22 => (slices_Sorted_int_iter0_enc1_int Fu x22).bind fun x31 => some x31)
set_option maxRecDepth 100000 in
set_option maxHeartbeats 2000000 in
theorem know_Set_List_ok (Fu : Nat) {S0 : Snap} (ga0 : Nat) (a0 : (List (Int × Int × Int)) × (List Bool) × (List Int) × Bool) (hpa0 : ptS (tyP (tyL (tyP tyI (tyP tyI tyI))) (tyP (tyL tyB) (tyP (tyL tyI) tyB))) S0 ga0 a0) (r : (List Int)) (hf : know_Set_List Fu a0 = some r) (w0 : World) (hm : Mem w0 (ownL ([] ++ [.sn S0])) ([] ++ [.sn S0]) w0) :
    Calls Try.prog 12 #[.pointer (some ⟨ga0, 0, none⟩)] w0 (Ret w0 S0 [] (fun v L1 S1 => ∃ (A39 : Option Addr), ∃ (c40 : Nat), ∃ (cs41 : List Value), v = .slice A39 r.length c40 ∧ L1 = [.row (.slice A39 r.length c40) 3 1 r.length cs41] ∧ reps tyI S1 cs41 r ∧ True)) := by
  unfold know_Set_List at hf
  refine c_enterM Try.func12 rfl 12 rfl (by simp) _ hm _ rfl (fun a h => ?_)
  refine c_rs ?_
  refine sAV h (fun a h => ?_)
  refine l_end ?_
  refine wp_seq ?_
  refine c_rs ?_
  refine sMV h (fun a h => ?_)
  obtain ⟨x1, h2, hf⟩ := bsome hf
  have hX := know_Set_made_ok Fu (S0 := snapAll _) ga0 a0 (hpa0.mono (h.m.leAll (i := 0) rfl)) _ h2 _ h.startAll
  refine q_callX hX h rfl rfl rfl (by decide) Try.func21 rfl rfl rfl (fun a w v L1 S1 hR hb1 h => ?_)
  obtain ⟨rfl, rfl, _⟩ := hR
  refine s_x h rfl rfl (by decide) (x_not h.k rfl rfl) (fun a h => ?_)
  refine l_end ?_
  refine c_cond h rfl (fun hb => ?_) (fun hb => ?_)
  · rw [if_pos hb] at hf
    refine c_rs ?_
    refine sAV h (fun a h => ?_)
    refine l_end ?_
    refine wp_ret ?_
    refine e_thenR ?_
    obtain rfl := Option.some.inj hf
    have h := h.mem (h.m.nilrow 3 1)
    exact r_ret1 h rfl (rv_tmp h rfl) ⟨_, [.row (.slice none ([]).length 0) 3 1 ([]).length []], _, rfl, ⟨none, 0, [], rfl, rfl, (show reps tyI S0 [] [] from rfl), trivial⟩, rfl, (Up.refl _ _ _), h.m⟩
  · rw [if_neg (by rw [hb]; decide)] at hf
    refine wp_skip ?_
    refine e_thenN ?_
    refine c_rs ?_
    refine sMV h (fun a h => ?_)
    obtain ⟨k5, hc6, ⟨k7, k8, rfl, ⟨A9, c10, rfl, hs11⟩, ⟨k12, k13, rfl, ⟨A14, c15, rfl, hs16⟩, ⟨k17, k18, rfl, ⟨A19, c20, rfl, hs21⟩, rfl⟩⟩⟩⟩ := id hpa0
    refine s_x h rfl rfl (by decide) (x_nil h.k rfl rfl) (fun a h => ?_)
    refine s_x h rfl rfl (by decide) (x_faddr h.k rfl Try.underlying54 rfl sz_Sint rfl) (fun a h => ?_)
    refine s_x h rfl rfl (by decide) (x_ld h.k rfl Try.underlying23 rfl rfl (hc6 _ (h.m.snOK (i := 0) rfl) 2 _ rfl)) (fun a h => ?_)
    obtain ⟨x22, h23, hf⟩ := bsome hf
    have hX := slices_Values___int_int_ok Fu (S0 := S0) A19 c20 a0.2.2.1 hs21 _ h23 _ (h.sub (Ls := []))
    refine q_callY (Ls := []) hX h (Up.refl _ _ _) rfl rfl rfl (by decide) Try.func23 rfl rfl rfl (fun a w v L1 S25 hR le27 up26 h => ?_)
    obtain ⟨hit29, rfl, hall30, _⟩ := hR
    obtain ⟨it28, rfl⟩ : ∃ x, x = v := ⟨_, rfl⟩
    obtain ⟨x31, h32, hf⟩ := bsome hf
    have hX := slices_Sorted_int_iter0_enc1_int_ok Fu (S0 := snapAll _) it28 x22 (hit29.mono (h.m.leAll (i := 0) rfl)) hall30 _ h32 _ h.startAll
    refine q_callX hX h rfl rfl rfl (by decide) Try.func22 rfl rfl rfl (fun a w v L1 S1 hR hb1 h => ?_)
    obtain ⟨A34, c35, cs36, rfl, rfl, hq37, _⟩ := hR
    have hq38 := hq37.fl (S' := S25) fl_I
    refine sAV h (fun a h => ?_)
    refine l_end ?_
    refine wp_ret ?_
    rw [← Option.some.inj hf]
    exact r_ret1 h rfl (rv_tmp h rfl) ⟨_, [.row (.slice A34 x31.length c35) 3 1 x31.length cs36], _, rfl, ⟨A34, c35, cs36, rfl, rfl, hq38, trivial⟩, rfl, up26, h.m⟩
def know_Set_List_nil0 (Fu : Nat) : Option ((List Int)) :=
  (know_Set_made_nil0 Fu).bind fun x1 => some ([])
set_option maxRecDepth 100000 in
set_option maxHeartbeats 2000000 in
theorem know_Set_List_nil0_ok (Fu : Nat) {S0 : Snap}  (r : (List Int)) (hf : know_Set_List_nil0 Fu = some r) (w0 : World) (hm : Mem w0 (ownL ([] ++ [.sn S0])) ([] ++ [.sn S0]) w0) :
    Calls Try.prog 12 #[.pointer none] w0 (Ret w0 S0 [] (fun v L1 S1 => ∃ (A5 : Option Addr), ∃ (c6 : Nat), ∃ (cs7 : List Value), v = .slice A5 r.length c6 ∧ L1 = [.row (.slice A5 r.length c6) 3 1 r.length cs7] ∧ reps tyI S1 cs7 r ∧ True)) := by
  unfold know_Set_List_nil0 at hf
  refine c_enterM Try.func12 rfl 12 rfl (by simp) _ hm _ rfl (fun a h => ?_)
  refine c_rs ?_
  refine sAV h (fun a h => ?_)
  refine l_end ?_
  refine wp_seq ?_
  refine c_rs ?_
  refine sMV h (fun a h => ?_)
  obtain ⟨x1, h2, hf⟩ := bsome hf
  have hX := know_Set_made_nil0_ok Fu (S0 := snapAll _)  _ h2 _ h.startAll
  refine q_callX hX h rfl rfl rfl (by decide) Try.func21 rfl rfl rfl (fun a w v L1 S1 hR hb1 h => ?_)
  obtain ⟨rfl, rfl, _⟩ := hR
  obtain rfl : x1 = false := by unfold know_Set_made_nil0 at h2; exact (Option.some.inj h2).symm
  refine s_x h rfl rfl (by decide) (x_not h.k rfl rfl) (fun a h => ?_)
  refine l_end ?_
  refine c_cond h rfl (fun hb => ?_) (fun hb => ?_)
  · refine c_rs ?_
    refine sAV h (fun a h => ?_)
    refine l_end ?_
    refine wp_ret ?_
    refine e_thenR ?_
    obtain rfl := Option.some.inj hf
    have h := h.mem (h.m.nilrow 3 1)
    exact r_ret1 h rfl (rv_tmp h rfl) ⟨_, [.row (.slice none ([]).length 0) 3 1 ([]).length []], _, rfl, ⟨none, 0, [], rfl, rfl, (show reps tyI S0 [] [] from rfl), trivial⟩, rfl, (Up.refl _ _ _), h.m⟩
  · exact absurd hb (by decide)
def slices_Concat___int_int_l0 (Fu : Nat) (a0 : List (List Int)) : Nat → Int → Int → Option Int
  | 0, _, _ => none
  | k + 1, x3, x5 => if x5 < (a0.length : Int) then ((idx a0 x5).bind fun x11 => if w64 (x3 + (x11.length : Int)) < 0 then none else (slices_Concat___int_int_l0 Fu a0 k (w64 (x3 + (x11.length : Int))) (w64 (x5 + 1)))) else (some x3)
def slices_Concat___int_int_l1 (Fu : Nat) (a0 : List (List Int)) : Nat → Int → (List Int) → Option ((List Int))
  | 0, _, _ => none
  | k + 1, x37, x39 => if x37 < (a0.length : Int) then ((idx a0 x37).bind fun x51 => (app 8 x39 x51).bind fun x67 => slices_Concat___int_int_l1 Fu a0 k (w64 (x37 + 1)) x67) else (some x39)
def slices_Concat___int_int (Fu : Nat) (a0 : List (List Int)) : Option ((List Int)) :=
  (slices_Concat___int_int_l0 Fu a0 Fu 0 0).bind fun x7 => (slices_Grow___int_int__nils0 Fu x7).bind fun x27 => (slices_Concat___int_int_l1 Fu a0 Fu 0 x27).bind fun x44 => some x44
set_option maxRecDepth 100000 in
set_option maxHeartbeats 2000000 in
theorem slices_Concat___int_int_ok (Fu : Nat) {S0 : Snap} (Aa0 : Option Addr) (ca0 : Nat) (a0 : List (List Int)) (hsa0 : slS (tyL tyI) S0 Aa0 ca0 a0) (r : (List Int)) (hf : slices_Concat___int_int Fu a0 = some r) (w0 : World) (hm : Mem w0 (ownL ([] ++ [.sn S0])) ([] ++ [.sn S0]) w0) :
    Calls Try.prog 24 #[.slice Aa0 a0.length ca0] w0 (Ret w0 S0 [] (fun v L1 S1 => ∃ (A78 : Option Addr), ∃ (c79 : Nat), ∃ (cs80 : List Value), v = .slice A78 r.length c79 ∧ L1 = [.row (.slice A78 r.length c79) 3 1 r.length cs80] ∧ reps tyI S1 cs80 r ∧ True)) := by
  unfold slices_Concat___int_int at hf
  refine c_enterM Try.func24 rfl 36 rfl (by simp) _ hm _ rfl (fun a h => ?_)
  refine c_rs ?_
  refine sAV h (fun a h => ?_)
  refine l_end ?_
  refine c_rs ?_
  refine sAV h (fun a h => ?_)
  refine l_end ?_
  refine wp_seq ?_
  refine c_rs ?_
  refine sMV h (fun a h => ?_)
  refine s_x h rfl rfl (by decide) (x_len h.k rfl Try.underlying65 rfl) (fun a h => ?_)
  refine sMV h (fun a h => ?_)
  refine l_end ?_
  obtain ⟨o1, hl2, hf⟩ := bsome hf
  refine c_fin (fun a w => ∃ (x7 : Int), x7 = o1 ∧ r64 x7 ∧ St 36 w0 (ownL ([] ++ [.sn S0])) [(0, .slice Aa0 a0.length ca0), (3, .int .i64 x7)] [.sn S0] a w) ?_ ?_
  · refine wp_block ?_
    refine c_loop (fun m10 a w => ∃ (x3 : Int), ∃ (x5 : Int), slices_Concat___int_int_l0 Fu a0 m10 x3 x5 = some o1 ∧ r64 x3 ∧ r64 x5 ∧ St 36 w0 (ownL ([] ++ [.sn S0])) [(0, .slice Aa0 a0.length ca0), (3, .int .i64 x3), (9, .slice Aa0 a0.length ca0), (10, .int .i64 (a0.length : Int)), (11, .int .i64 x5)] [.sn S0] a w) Fu ⟨0, 0, hl2, (show r64 0 from ⟨by decide, by decide⟩), (show r64 0 from ⟨by decide, by decide⟩), h.has (by exact ⟨rfl, rfl, rfl, rfl, rfl, trivial⟩)⟩ (fun m10 a w hI => ?_)
    obtain ⟨x3, x5, hl9, hr4, hr6, h⟩ := hI
    obtain _ | m10 := m10
    · rw [slices_Concat___int_int_l0] at hl9; cases hl9
    rw [slices_Concat___int_int_l0] at hl9
    refine c_rs ?_
    refine s_x h rfl rfl (by decide) (x_bin h.k rfl rfl rfl ib_lss) (fun a h => ?_)
    refine l_end ?_
    refine c_cs h rfl (fun hb => ?_) (fun hb => ?_)
    · rw [if_pos (of_decide_eq_true hb)] at hl9
      refine wp_skip ?_
      refine e_thenN ?_
      refine wp_seq ?_
      refine wp_block ?_
      refine c_rs ?_
      obtain ⟨x11, h15, hl9⟩ := bsome hl9
      obtain ⟨m12, hi16, hm17, hx18⟩ := idx_some h15
      obtain ⟨b13, off14, k19, hA20, hu21, hc22⟩ := (hsa0).at1 rfl hx18 (h.m.snOK (i := 0) rfl)
      obtain ⟨A23, c24, e26, hs25⟩ := hu21
      cases e26
      refine s_x h rfl rfl (by decide) (x_iaddrE h.k rfl Try.underlying65 sz_Sint hA20 rfl rfl hi16 hm17) (fun a h => ?_)
      refine s_x h rfl rfl (by decide) (x_ld h.k rfl Try.underlying23 rfl rfl (hc22 _ (h.m.snOK (i := 0) rfl))) (fun a h => ?_)
      refine sAV h (fun a h => ?_)
      refine l_end ?_
      refine c_rs ?_
      refine sMV h (fun a h => ?_)
      refine sMV h (fun a h => ?_)
      refine s_x h rfl rfl (by decide) (x_len h.k rfl Try.underlying23 rfl) (fun a h => ?_)
      refine s_x h rfl rfl (by decide) (x_bin h.k rfl rfl rfl (ib_add rfl)) (fun a h => ?_)
      refine sAV h (fun a h => ?_)
      refine l_end ?_
      refine c_rs ?_
      refine sMV h (fun a h => ?_)
      refine s_x h rfl rfl (by decide) (x_bin h.k rfl rfl rfl ib_lss) (fun a h => ?_)
      refine l_end ?_
      refine c_cond h rfl (fun hb => ?_) (fun hb => ?_)
      · rw [if_pos (of_decide_eq_true hb)] at hl9
        cases hl9
      · rw [if_neg (of_decide_eq_false hb)] at hl9
        refine wp_skip ?_
        refine e_blkN ?_
        refine e_thenN ?_
        refine c_r ?_
        refine s_x h rfl rfl (by decide) (x_bin h.k rfl rfl rfl (ib_add rfl)) (fun a h => ?_)
        refine sMV h (fun a h => ?_)
        refine l_nil ?_
        exact e_thenN ⟨m10, Nat.lt_succ_self _, w64 (x3 + (x11.length : Int)), w64 (x5 + 1), hl9, (w64_r _), (w64_r _), h.has (by exact ⟨rfl, rfl, rfl, rfl, rfl, trivial⟩)⟩
    · rw [if_neg (of_decide_eq_false hb)] at hl9
      refine wp_exit ?_
      refine e_thenX ?_
      refine e_thenX ?_
      refine e_blkX ?_
      refine e_thenN ?_
      exact ⟨x3, (Option.some.inj hl9), hr4, h.has (by exact ⟨rfl, rfl, trivial⟩)⟩
  · rintro a w ⟨x7, rfl, hr8, h⟩
    refine e_thenN ?_
    refine c_rs ?_
    refine sMV h (fun a h => ?_)
    obtain ⟨x27, h28, hf⟩ := bsome hf
    have hX := slices_Grow___int_int__nils0_ok Fu (S0 := snapAll _) x7 hr8 _ h28 _ h.startAll
    refine q_callX hX h rfl rfl rfl (by decide) Try.func33 rfl rfl rfl (fun a w v L1 S1 hR hb1 h => ?_)
    obtain ⟨A30, c31, cs32, rfl, rfl, hq33, _⟩ := hR
    have hq34 := hq33.fl (S' := S0) fl_I
    refine sAV h (fun a h => ?_)
    refine l_end ?_
    refine wp_seq ?_
    refine c_rs ?_
    refine sMV h (fun a h => ?_)
    refine s_x h rfl rfl (by decide) (x_len h.k rfl Try.underlying65 rfl) (fun a h => ?_)
    refine sMV h (fun a h => ?_)
    refine l_end ?_
    obtain ⟨o35, hl36, hf⟩ := bsome hf
    refine c_fin (fun a w => ∃ (x44 : List Int), ∃ (A45 : Option Addr), ∃ (c46 : Nat), ∃ (cs47 : List Value), x44 = o35 ∧ reps tyI S0 cs47 x44 ∧ St 36 w0 (ownL ([] ++ [.sn S0])) [(6, .slice A45 x44.length c46)] [.row (.slice A45 x44.length c46) 3 1 x44.length cs47, .sn S0] a w) ?_ ?_
    · refine wp_block ?_
      refine c_loop (fun m50 a w => ∃ (x37 : Int), ∃ (x39 : List Int), ∃ (A40 : Option Addr), ∃ (c41 : Nat), ∃ (cs42 : List Value), slices_Concat___int_int_l1 Fu a0 m50 x37 x39 = some o35 ∧ r64 x37 ∧ reps tyI S0 cs42 x39 ∧ St 36 w0 (ownL ([] ++ [.sn S0])) [(6, .slice A40 x39.length c41), (25, .slice Aa0 a0.length ca0), (26, .int .i64 (a0.length : Int)), (27, .int .i64 x37)] [.row (.slice A40 x39.length c41) 3 1 x39.length cs42, .sn S0] a w) Fu ⟨0, x27, A30, c31, cs32, hl36, (show r64 0 from ⟨by decide, by decide⟩), hq34, h.has (by exact ⟨rfl, rfl, rfl, rfl, trivial⟩)⟩ (fun m50 a w hI => ?_)
      obtain ⟨x37, x39, A40, c41, cs42, hl49, hr38, hq43, h⟩ := hI
      obtain _ | m50 := m50
      · rw [slices_Concat___int_int_l1] at hl49; cases hl49
      rw [slices_Concat___int_int_l1] at hl49
      refine c_rs ?_
      refine s_x h rfl rfl (by decide) (x_bin h.k rfl rfl rfl ib_lss) (fun a h => ?_)
      refine l_end ?_
      refine c_cs h rfl (fun hb => ?_) (fun hb => ?_)
      · rw [if_pos (of_decide_eq_true hb)] at hl49
        refine wp_skip ?_
        refine e_thenN ?_
        refine wp_seq ?_
        refine wp_block ?_
        refine c_rs ?_
        obtain ⟨x51, h55, hl49⟩ := bsome hl49
        obtain ⟨m52, hi56, hm57, hx58⟩ := idx_some h55
        obtain ⟨b53, off54, k59, hA60, hu61, hc62⟩ := (hsa0).at1 rfl hx58 (h.m.snOK (i := 1) rfl)
        obtain ⟨A63, c64, e66, hs65⟩ := hu61
        cases e66
        refine s_x h rfl rfl (by decide) (x_iaddrE h.k rfl Try.underlying65 sz_Sint hA60 rfl rfl hi56 hm57) (fun a h => ?_)
        refine s_x h rfl rfl (by decide) (x_ld h.k rfl Try.underlying23 rfl rfl (hc62 _ (h.m.snOK (i := 1) rfl))) (fun a h => ?_)
        refine sAV h (fun a h => ?_)
        refine l_end ?_
        refine c_r ?_
        refine sMV h (fun a h => ?_)
        refine sMV h (fun a h => ?_)
        obtain ⟨x67, h68, hl49⟩ := bsome hl49
        obtain ⟨_, _, vs69, hrd70, hrp71⟩ := id hs65
        refine q_append (T := tyI) (S := S0) h rfl rfl rfl (by decide) Try.underlying23 zb_int rfl (by decide) rfl 0 rfl hq43 rfl hrp71 (hrd70 _ (h.m.snOK (i := 1) rfl)) h68 (fun a w A72 c73 cs74 hq75 h => ?_)
        refine sAV h (fun a h => ?_)
        refine l_nil ?_
        refine e_blkN ?_
        refine e_thenN ?_
        refine c_r ?_
        refine s_x h rfl rfl (by decide) (x_bin h.k rfl rfl rfl (ib_add rfl)) (fun a h => ?_)
        refine sMV h (fun a h => ?_)
        refine l_nil ?_
        exact e_thenN ⟨m50, Nat.lt_succ_self _, w64 (x37 + 1), x67, A72, c73, cs74, hl49, (w64_r _), hq75, h.has (by exact ⟨rfl, rfl, rfl, rfl, trivial⟩)⟩
      · rw [if_neg (of_decide_eq_false hb)] at hl49
        refine wp_exit ?_
        refine e_thenX ?_
        refine e_thenX ?_
        refine e_blkX ?_
        refine e_thenN ?_
        exact ⟨x39, A40, c41, cs42, (Option.some.inj hl49), hq43, h.has (by exact ⟨rfl, trivial⟩)⟩
    · rintro a w ⟨x44, A45, c46, cs47, rfl, hq48, h⟩
      refine e_thenN ?_
      refine c_rs ?_
      refine sMV h (fun a h => ?_)
      refine sAV h (fun a h => ?_)
      refine l_end ?_
      refine wp_ret ?_
      rw [← Option.some.inj hf]
      exact r_ret1 h rfl (rv_tmp h rfl) ⟨_, [.row (.slice A45 x44.length c46) 3 1 x44.length cs47], _, rfl, ⟨A45, c46, cs47, rfl, rfl, hq48, trivial⟩, rfl, (Up.refl _ _ _), h.m⟩
def know_Set_More (Fu : Nat) (a0 : (List (Int × Int × Int)) × (List Bool) × (List Int) × Bool) (a1 : List Int) : Option (Sum Int (((List (Int × Int × Int)) × (List Bool) × (List Int) × Bool) × Int)) :=
  (know_Set_made Fu a0).bind fun x1 => if (!x1) = true then (some (.inl 1)) else ((slices_Concat___int_int Fu ([a0.2.2.1, a1])).bind fun x40 => (know_of Fu a0.1 x40).bind fun x52 => (match x52 with | .inl x58 => (some (.inl x58)) | .inr x60 => (some (.inr x60))))
set_option maxRecDepth 100000 in
set_option maxHeartbeats 2000000 in
theorem know_Set_More_ok (Fu : Nat) {S0 : Snap} (ga0 : Nat) (a0 : (List (Int × Int × Int)) × (List Bool) × (List Int) × Bool) (hpa0 : ptS (tyP (tyL (tyP tyI (tyP tyI tyI))) (tyP (tyL tyB) (tyP (tyL tyI) tyB))) S0 ga0 a0) (Aa1 : Option Addr) (ca1 : Nat) (a1 : List Int) (hsa1 : slS tyI S0 Aa1 ca1 a1) (r : Sum Int (((List (Int × Int × Int)) × (List Bool) × (List Int) × Bool) × Int)) (hf : know_Set_More Fu a0 a1 = some r) (w0 : World) (hm : Mem w0 (ownL ([] ++ [.sn S0])) ([] ++ [.sn S0]) w0) :
    Calls Try.prog 14 #[.pointer (some ⟨ga0, 0, none⟩), .slice Aa1 a1.length ca1] w0 (Ret w0 S0 [] (fun v L1 S1 => (∃ r0, r = .inl r0 ∧ v = .tuple #[.pointer none, .int .i64 r0] ∧ L1 = [] ∧ r64 r0 ∧ True) ∨ (∃ r0, r = .inr r0 ∧ ∃ (g75 : Nat), ∃ (A76 : Option Addr), ∃ (c77 : Nat), ∃ (A79 : Option Addr), ∃ (c80 : Nat), ∃ (cs81 : List Value), ∃ (A83 : Option Addr), ∃ (c84 : Nat), ∃ (cs85 : List Value), v = .tuple #[.pointer (some ⟨g75, 0, none⟩), .int .i64 r0.2] ∧ L1 = [.box g75 54 ([.slice A76 r0.1.1.length c77, .slice A79 r0.1.2.1.length c80, .slice A83 r0.1.2.2.1.length c84, .bool r0.1.2.2.2]), .row (.slice A79 r0.1.2.1.length c80) 4 1 r0.1.2.1.length cs81, .row (.slice A83 r0.1.2.2.1.length c84) 3 1 r0.1.2.2.1.length cs85] ∧ slS (tyP tyI (tyP tyI tyI)) S1 A76 c77 r0.1.1 ∧ reps tyB S1 cs81 r0.1.2.1 ∧ reps tyI S1 cs85 r0.1.2.2.1 ∧ r64 r0.2 ∧ True))) := by
  unfold know_Set_More at hf
  refine c_enterM Try.func14 rfl 23 rfl (by simp) _ hm _ rfl (fun a h => ?_)
  refine c_rs ?_
  refine sAV h (fun a h => ?_)
  refine sAV h (fun a h => ?_)
  refine l_end ?_
  refine wp_seq ?_
  refine c_rs ?_
  refine sMV h (fun a h => ?_)
  obtain ⟨x1, h2, hf⟩ := bsome hf
  have hX := know_Set_made_ok Fu (S0 := snapAll _) ga0 a0 (hpa0.mono (h.m.leAll (i := 0) rfl)) _ h2 _ h.startAll
  refine q_callX hX h rfl rfl rfl (by decide) Try.func21 rfl rfl rfl (fun a w v L1 S1 hR hb1 h => ?_)
  obtain ⟨rfl, rfl, _⟩ := hR
  refine s_x h rfl rfl (by decide) (x_not h.k rfl rfl) (fun a h => ?_)
  refine l_end ?_
  refine c_cond h rfl (fun hb => ?_) (fun hb => ?_)
  · rw [if_pos hb] at hf
    refine c_rs ?_
    refine sAV h (fun a h => ?_)
    refine sAV h (fun a h => ?_)
    refine l_end ?_
    refine wp_ret ?_
    refine e_thenR ?_
    rw [← Option.some.inj hf]
    exact r_ret2 h rfl (rv_tmp h rfl) (rv_tmp h rfl) ⟨_, [], _, rfl, (.inl ⟨_, rfl, ⟨rfl, rfl, (show r64 1 from ⟨by decide, by decide⟩), trivial⟩⟩), rfl, (Up.refl _ _ _), h.m⟩
  · rw [if_neg (by rw [hb]; decide)] at hf
    refine wp_skip ?_
    refine e_thenN ?_
    refine wp_seq ?_
    -- region 3 draws
    obtain ⟨x40, h41, hf⟩ := bsome hf
    obtain ⟨x52, h53, hf⟩ := bsome hf
    refine d_start h (Mem _ _ _) 16 16 rfl (by kernel_rfl) (fun _ _ _ _ _ h => h) (fun _ h => h) (fun Q a w HE HN h HS => ?_)
    refine d_takeP h (fun _ => HS) HN 0 rfl (by kernel_rfl) (by kernel_rfl) (by kernel_rfl) (by decide) rfl rfl (by decide) (fun w' => x_move h.k _ rfl rfl) (fun a h => ?_)
    obtain ⟨k4, hc5, ⟨k6, k7, rfl, ⟨A8, c9, rfl, hs10⟩, ⟨k11, k12, rfl, ⟨A13, c14, rfl, hs15⟩, ⟨k16, k17, rfl, ⟨A18, c19, rfl, hs20⟩, rfl⟩⟩⟩⟩ := id hpa0
    refine d_takeP h (fun _ => HS) HN 1 rfl (by kernel_rfl) (by kernel_rfl) (by kernel_rfl) (by decide) rfl rfl (by decide) (fun w' => x_nil h.k rfl rfl) (fun a h => ?_)
    refine d_takeP h (fun _ => HS) HN 2 rfl (by kernel_rfl) (by kernel_rfl) (by kernel_rfl) (by decide) rfl rfl (by decide) (fun w' => x_faddr h.k rfl Try.underlying54 rfl sz_Sapi_Term rfl) (fun a h => ?_)
    refine d_take h HS HN 3 rfl (by kernel_rfl) (by kernel_rfl) (by kernel_rfl) (by kernel_rfl) (by kernel_rfl) rfl rfl (by decide) (fun w' hw => x_ld h.k rfl Try.underlying22 rfl rfl (hc5 _ (hw.snOK (i := 0) rfl) 0 _ rfl)) (fun a h => ?_)
    refine d_takeP h (fun _ => HS) HN 4 rfl (by kernel_rfl) (by kernel_rfl) (by kernel_rfl) (by decide) rfl rfl (by decide) (fun w' => x_move h.k _ rfl rfl) (fun a h => ?_)
    obtain ⟨k21, hc22, ⟨k23, k24, rfl, ⟨A25, c26, rfl, hs27⟩, ⟨k28, k29, rfl, ⟨A30, c31, rfl, hs32⟩, ⟨k33, k34, rfl, ⟨A35, c36, rfl, hs37⟩, rfl⟩⟩⟩⟩ := id hpa0
    refine d_takeP h (fun _ => HS) HN 5 rfl (by kernel_rfl) (by kernel_rfl) (by kernel_rfl) (by decide) rfl rfl (by decide) (fun w' => x_nil h.k rfl rfl) (fun a h => ?_)
    refine d_takeP h (fun _ => HS) HN 6 rfl (by kernel_rfl) (by kernel_rfl) (by kernel_rfl) (by decide) rfl rfl (by decide) (fun w' => x_faddr h.k rfl Try.underlying54 rfl sz_Sint rfl) (fun a h => ?_)
    refine d_take h HS HN 7 rfl (by kernel_rfl) (by kernel_rfl) (by kernel_rfl) (by kernel_rfl) (by kernel_rfl) rfl rfl (by decide) (fun w' hw => x_ld h.k rfl Try.underlying23 rfl rfl (hc22 _ (hw.snOK (i := 0) rfl) 2 _ rfl)) (fun a h => ?_)
    refine d_takeP h (fun _ => HS) HN 8 rfl (by kernel_rfl) (by kernel_rfl) (by kernel_rfl) (by decide) rfl rfl (by decide) (fun w' => x_move h.k _ rfl rfl) (fun a h => ?_)
    refine d_alone 9 rfl (by kernel_rfl) (fun K hK => ?_)
    refine q_bslice (T := tyL tyI) (S := S0) h rfl rfl rfl (by decide) Try.underlying65 zi_Sint (by decide) (by decide) (by decide) (by decide) [.slice A35 a0.2.2.1.length c36, .slice Aa1 a1.length ca1] rfl rfl (C := [[.slice A35 a0.2.2.1.length c36], [.slice Aa1 a1.length ca1]]) rfl (xs := [a0.2.2.1, a1]) ⟨[.slice A35 a0.2.2.1.length c36], _, rfl, ⟨_, _, rfl, hs37⟩, ⟨[.slice Aa1 a1.length ca1], _, rfl, ⟨_, _, rfl, hsa1⟩, rfl⟩⟩ (by simp only [List.mem_cons, List.not_mem_nil, or_false]; rintro c (rfl | rfl) <;> rfl) (fun a w A38 h => ?_)
    have hb39 : reps (tyL tyI) S0 ([[.slice A35 a0.2.2.1.length c36], [.slice Aa1 a1.length ca1]] : List (List Value)).flatten [a0.2.2.1, a1] := ⟨[.slice A35 a0.2.2.1.length c36], _, rfl, ⟨_, _, rfl, hs37⟩, ⟨[.slice Aa1 a1.length ca1], _, rfl, ⟨_, _, rfl, hsa1⟩, rfl⟩⟩
    replace HS := h.m.pick [1] [.sn S0] (by decide) rfl
    refine hK _ _ (fun _ _ => HS) ?_
    clear hK
    refine d_alone 10 rfl (by kernel_rfl) (fun K hK => ?_)
    have hX := slices_Concat___int_int_ok Fu (S0 := snapAll _) A38 2 ([a0.2.2.1, a1]) (h.m.rowAll (i := 0) rfl (j := 1) rfl hb39) _ h41 _ h.startAll
    refine q_callX hX h rfl rfl rfl (by decide) Try.func24 rfl rfl rfl (fun a w v L1 S1 hR hb1 h => ?_)
    obtain ⟨A43, c44, cs45, rfl, rfl, hq46, _⟩ := hR
    have hq47 := hq46.fl (S' := S0) fl_I
    refine hK _ _ (fun _ _ => HS.ext hb1) ?_
    replace HS := HS.ext hb1
    clear hK
    refine d_alone 11 rfl (by kernel_rfl) (fun K hK => ?_)
    have h := h.pick [0, 2, 1] (by decide) rfl
    obtain ⟨S48, le49, up50, hs51, h⟩ := q_freeze (T := tyI) h (Up.refl _ _ _) hq47
    have hX := know_of_ok Fu (S0 := S48) A8 c9 a0.1 (hs10.mono le49) A43 c44 x40 hs51 _ h53 _ (h.sub (Ls := []))
    refine q_callY (Ls := []) hX h up50 rfl rfl rfl (by decide) Try.func18 rfl rfl rfl (fun a w v L1 S55 hR le57 up56 h => ?_)
    rcases hR with hR | hR
    · obtain ⟨x58, rfl, hR⟩ := hR
      dsimp only at hf
      obtain ⟨rfl, rfl, hr59, _⟩ := hR
      replace HS := (h.m.pick [0] [.sn S55] (by decide) rfl).snLe 0 rfl (le49.trans le57)
      refine hK _ _ (fun _ _ => HS) ?_
      clear hK
      refine d_takeP h (fun _ => HS) HN 12 rfl (by kernel_rfl) (by kernel_rfl) (by kernel_rfl) (by decide) rfl rfl (by decide) (fun w' => x_ext h.k rfl rfl rfl) (fun a h => ?_)
      refine d_takeP h (fun _ => HS) HN 13 rfl (by kernel_rfl) (by kernel_rfl) (by kernel_rfl) (by decide) rfl rfl (by decide) (fun w' => x_ext h.k rfl rfl rfl) (fun a h => ?_)
      refine d_takeP h (fun _ => HS) HN 14 rfl (by kernel_rfl) (by kernel_rfl) (by kernel_rfl) (by decide) rfl rfl (by decide) (fun w' => x_assign h.k _ rfl rfl) (fun a h => ?_)
      refine d_takeP h (fun _ => HS) HN 15 rfl (by kernel_rfl) (by kernel_rfl) (by kernel_rfl) (by decide) rfl rfl (by decide) (fun w' => x_assign h.k _ rfl rfl) (fun a h => ?_)
      refine d_done (by kernel_rfl) (HE _ _ ?_) _
      refine e_thenN ?_
      refine wp_ret ?_
      rw [← Option.some.inj hf]
      exact r_ret2 h rfl (rv_tmp h rfl) (rv_tmp h rfl) ⟨_, [], _, rfl, (.inl ⟨_, rfl, ⟨rfl, rfl, hr59, trivial⟩⟩), rfl, up56, (h.m.pick [0] _ (by decide) rfl)⟩
    · obtain ⟨x60, rfl, hR⟩ := hR
      dsimp only at hf
      obtain ⟨g61, A62, c63, A65, c66, cs67, A69, c70, cs71, rfl, rfl, hs64, hq68, hq72, hr73, _⟩ := hR
      replace HS := (h.m.pick [3] [.sn S55] (by decide) rfl).snLe 0 rfl (le49.trans le57)
      refine hK _ _ (fun _ _ => HS) ?_
      clear hK
      refine d_takeP h (fun _ => HS) HN 12 rfl (by kernel_rfl) (by kernel_rfl) (by kernel_rfl) (by decide) rfl rfl (by decide) (fun w' => x_ext h.k rfl rfl rfl) (fun a h => ?_)
      refine d_takeP h (fun _ => HS) HN 13 rfl (by kernel_rfl) (by kernel_rfl) (by kernel_rfl) (by decide) rfl rfl (by decide) (fun w' => x_ext h.k rfl rfl rfl) (fun a h => ?_)
      refine d_takeP h (fun _ => HS) HN 14 rfl (by kernel_rfl) (by kernel_rfl) (by kernel_rfl) (by decide) rfl rfl (by decide) (fun w' => x_assign h.k _ rfl rfl) (fun a h => ?_)
      refine d_takeP h (fun _ => HS) HN 15 rfl (by kernel_rfl) (by kernel_rfl) (by kernel_rfl) (by decide) rfl rfl (by decide) (fun w' => x_assign h.k _ rfl rfl) (fun a h => ?_)
      refine d_done (by kernel_rfl) (HE _ _ ?_) _
      refine e_thenN ?_
      refine wp_ret ?_
      rw [← Option.some.inj hf]
      exact r_ret2 h rfl (rv_tmp h rfl) (rv_tmp h rfl) ⟨_, [.box g61 54 ([.slice A62 x60.1.1.length c63, .slice A65 x60.1.2.1.length c66, .slice A69 x60.1.2.2.1.length c70, .bool x60.1.2.2.2]), .row (.slice A65 x60.1.2.1.length c66) 4 1 x60.1.2.1.length cs67, .row (.slice A69 x60.1.2.2.1.length c70) 3 1 x60.1.2.2.1.length cs71], _, rfl, (.inr ⟨_, rfl, ⟨g61, A62, c63, A65, c66, cs67, A69, c70, cs71, rfl, rfl, hs64, hq68, hq72, hr73, trivial⟩⟩), rfl, up56, (h.m.pick [0, 1, 2, 3] _ (by decide) rfl)⟩
def know_Set_More_nil0 (Fu : Nat) (a1 : List Int) : Option Int :=
  (know_Set_made_nil0 Fu).bind fun x1 => some 1
set_option maxRecDepth 100000 in
set_option maxHeartbeats 2000000 in
theorem know_Set_More_nil0_ok (Fu : Nat) {S0 : Snap} (Aa1 : Option Addr) (ca1 : Nat) (a1 : List Int) (hsa1 : slS tyI S0 Aa1 ca1 a1) (r : Int) (hf : know_Set_More_nil0 Fu a1 = some r) (w0 : World) (hm : Mem w0 (ownL ([] ++ [.sn S0])) ([] ++ [.sn S0]) w0) :
    Calls Try.prog 14 #[.pointer none, .slice Aa1 a1.length ca1] w0 (Ret w0 S0 [] (fun v L1 S1 => v = .tuple #[.pointer none, .int .i64 r] ∧ L1 = [] ∧ r64 r ∧ True)) := by
  unfold know_Set_More_nil0 at hf
  refine c_enterM Try.func14 rfl 23 rfl (by simp) _ hm _ rfl (fun a h => ?_)
  refine c_rs ?_
  refine sAV h (fun a h => ?_)
  refine sAV h (fun a h => ?_)
  refine l_end ?_
  refine wp_seq ?_
  refine c_rs ?_
  refine sMV h (fun a h => ?_)
  obtain ⟨x1, h2, hf⟩ := bsome hf
  have hX := know_Set_made_nil0_ok Fu (S0 := snapAll _)  _ h2 _ h.startAll
  refine q_callX hX h rfl rfl rfl (by decide) Try.func21 rfl rfl rfl (fun a w v L1 S1 hR hb1 h => ?_)
  obtain ⟨rfl, rfl, _⟩ := hR
  obtain rfl : x1 = false := by unfold know_Set_made_nil0 at h2; exact (Option.some.inj h2).symm
  refine s_x h rfl rfl (by decide) (x_not h.k rfl rfl) (fun a h => ?_)
  refine l_end ?_
  refine c_cond h rfl (fun hb => ?_) (fun hb => ?_)
  · refine c_rs ?_
    refine sAV h (fun a h => ?_)
    refine sAV h (fun a h => ?_)
    refine l_end ?_
    refine wp_ret ?_
    refine e_thenR ?_
    rw [← Option.some.inj hf]
    exact r_ret2 h rfl (rv_tmp h rfl) (rv_tmp h rfl) ⟨_, [], _, rfl, ⟨rfl, rfl, (show r64 1 from ⟨by decide, by decide⟩), trivial⟩, rfl, (Up.refl _ _ _), h.m⟩
  · exact absurd hb (by decide)
end Go.Proofs.Ytnjmlihmnkbgdaa
