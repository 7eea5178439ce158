/- Texts put together. -/
import Derived.Test.YtnjmlihmnkbgdaaPk
import Derived.Test.YtnjmlihmnkbgdaaTy
import Derived.Test.YtnjmlihmnkbgdaaKf
import Derived.Test.YtnjmlihmnkbgdaaSo
import Derived.Test.YtnjmlihmnkbgdaaIv
import Derived.Test.YtnjmlihmnkbgdaaSv
set_option linter.unusedVariables false
set_option linter.unusedSimpArgs false
namespace Go.Proofs.Ytnjmlihmnkbgdaa
open Go.RowKit
section
section
variable {P : Program} {o : Oper} {N : Nat} {w0 w : World} {B : Nat → Prop} {ρ : Slots} {L : List Ch} {a : Act}
end
end
section
def slices_AppendSeq___int_int_nils0_iter1_enc1_int_r0 (Fu : Nat) : List Int → (List Int) → Option ((List Int))
  | [], x5 => some x5
  | z2 :: rest, x5 => (app 8 x5 ([z2])).bind fun x16 => slices_AppendSeq___int_int_nils0_iter1_enc1_int_r0 Fu rest x16
def slices_AppendSeq___int_int_nils0_iter1_enc1_int (Fu : Nat) (a1 : List (Int)) : Option ((List Int)) :=
  (slices_AppendSeq___int_int_nils0_iter1_enc1_int_r0 Fu a1 ([])).bind fun x5 => some x5
set_option maxRecDepth 100000 in
set_option maxHeartbeats 2000000 in
theorem slices_AppendSeq___int_int_nils0_iter1_enc1_int_ok (Fu : Nat) {S0 : Snap} (ita1 : Value) (a1 : List (Int)) (hita1 : IterV Try.prog enc1 ita1 a1 S0) (halla1 : ∀ z ∈ a1, r64 z) (r : (List Int)) (hf : slices_AppendSeq___int_int_nils0_iter1_enc1_int Fu a1 = some r) (w0 : World) (hm : Mem w0 (ownL ([] ++ [.sn S0])) ([] ++ [.sn S0]) w0) :
    Calls Try.prog 36 #[.slice none 0 0, ita1] w0 (Ret w0 S0 [] (fun v L1 S1 => ∃ (A22 : Option Addr), ∃ (c23 : Nat), ∃ (cs24 : List Value), v = .slice A22 r.length c23 ∧ L1 = [.row (.slice A22 r.length c23) 3 1 r.length cs24] ∧ reps tyI S1 cs24 r ∧ True)) := by
  unfold slices_AppendSeq___int_int_nils0_iter1_enc1_int at hf
  refine c_enterR Try.func36 rfl 13 rfl (by simp) _ hm _ rfl (fun a h => ?_)
  refine c_rs ?_ -- region 0
  refine s_box h rfl rfl rfl (by decide) rfl (cs := [.slice none 0 0]) (by rfl) (fun a w g1 h => ?_)
  refine s_assign h rfl _ rfl rfl (by decide) rfl (fun a h => ?_)
  refine l_end ?_
  refine wp_seq ?_
  refine c_rs ?_ -- region 1
  refine s_move h rfl _ rfl rfl (by decide) rfl (fun a h => ?_)
  refine l_end ?_
  have h := h.mem (h.m.nilrow 3 1)
  obtain ⟨o10, hl11, hf⟩ := bsome hf
  refine wp_block ?_
  have h := h.pick [1, 0, 2] (by decide) rfl
  refine c_range (xs := a1) (encs := enc1) h rfl hita1 (fun _ => rfl) (by decide) (fun pre L => ∃ (rest12 : List Int), ∃ (x5 : List Int), ∃ (A6 : Option Addr), ∃ (c7 : Nat), ∃ (cs8 : List Value), a1 = pre ++ rest12 ∧ slices_AppendSeq___int_int_nils0_iter1_enc1_int_r0 Fu rest12 x5 = some o10 ∧ reps tyI S0 cs8 x5 ∧ L = [.box g1 23 ([.slice A6 x5.length c7]), .row (.slice A6 x5.length c7) 3 1 x5.length cs8, .sn S0]) (fun _ => False) (fun pre L hI => ?_) ⟨a1, [], none, 0, [], rfl, hl11, (show reps tyI S0 [] [] from rfl), rfl⟩ (fun z2 => [(2, .pointer (some ⟨g1, 0, none⟩)), (4, .slice none 0 0), (5, .int .i64 z2)]) (fun l D o1 o2 z2 L a w h => ?_) (fun l D o1 o2 pre z2 rest L a w hxz hI h => ?_) (fun D L w hI h => ?_) (fun D L w hI h => ?_)
  · obtain ⟨rest12, x5, A6, c7, cs8, hxs, hl13, hq9, rfl⟩ := hI
    simp
  · have h : St 13 w0 (ownL ([] ++ [.sn S0])) ([(7, .int .i64 z2)] ++ _) _ a w := h
    refine m_r rfl ?_ -- region 2
    refine s_assign h rfl _ rfl rfl (by decide) rfl (fun a h => ?_)
    refine l_nil ?_
    exact e_thenN (h.has (by exact ⟨rfl, rfl, rfl, trivial⟩))
  · obtain ⟨rest12, x5, A6, c7, cs8, hxs, hl13, hq9, rfl⟩ := hI
    obtain rfl := List.append_cancel_left (hxs.symm.trans hxz)
    have hz3 := halla1 z2 (by rw [hxz]; simp)
    rw [slices_AppendSeq___int_int_nils0_iter1_enc1_int_r0] at hl13
    have h : St 13 w0 (ownL ([] ++ [.sn S0])) _ [.obj l o1, .obj D o2, .box g1 23 ([.slice A6 x5.length c7]), .row (.slice A6 x5.length c7) 3 1 x5.length cs8, .sn S0] a w := h
    refine m_block ?_
    refine m_r rfl ?_ -- region 3
    refine s_x h rfl rfl (by decide) (x_ld h.k rfl Try.underlying23 rfl rfl ((h.m.cell (i := 2) rfl 0).trans rfl)) (fun a h => ?_)
    refine s_move h rfl _ rfl rfl (by decide) rfl (fun a h => ?_)
    refine q_bslice (T := tyI) (S := S0) h rfl rfl rfl (by decide) Try.underlying23 zi_int (by decide) (by decide) (by decide) (by decide) [.int .i64 z2] rfl rfl (C := [[.int .i64 z2]]) rfl (xs := [z2]) ⟨[.int .i64 z2], _, rfl, ⟨rfl, hz3⟩, rfl⟩ (by intro c hc; simp only [List.mem_cons, List.not_mem_nil, or_false] at hc; subst hc; rfl) (fun a w A14 h => ?_)
    have hb15 : reps tyI S0 ([[.int .i64 z2]] : List (List Value)).flatten [z2] := ⟨[.int .i64 z2], _, rfl, ⟨rfl, hz3⟩, rfl⟩
    obtain ⟨x16, h17, hl13⟩ := bsome hl13
    refine q_append (T := tyI) (S := S0) h rfl rfl rfl (by decide) Try.underlying23 zb_int rfl (by decide) rfl 4 rfl hq9 rfl hb15 (h.m.rdRowA (i := 0) rfl) h17 (fun a w A18 c19 cs20 hq21 h => ?_)
    refine s_stb h rfl rfl rfl sz_Sint rfl rfl rfl 3 rfl (by first | decide | simp) (fun a w h => ?_)
    refine l_nil ?_
    refine e_blkN ?_
    have h := h.pick [1, 2, 3, 4, 5] (by decide) rfl
    exact RPost.n _ ⟨rest, x16, A18, c19, cs20, (by rw [hxz]; simp), hl13, hq21, rfl⟩ h.m
  · obtain ⟨rest12, x5, A6, c7, cs8, hxs, hl13, hq9, rfl⟩ := hI
    obtain rfl : rest12 = [] := by simpa using hxs
    rw [slices_AppendSeq___int_int_nils0_iter1_enc1_int_r0] at hl13
    obtain rfl := Option.some.inj hl13
    try dsimp only at hf
    refine e_blkN ?_
    refine e_thenN ?_
    refine tail_M ?_
    have h : St 13 w0 (ownL ([] ++ [.sn S0])) _ [.obj D (.deferred (some [])), .box g1 23 ([.slice A6 x5.length c7]), .row (.slice A6 x5.length c7) 3 1 x5.length cs8, .sn S0] a w := h
    refine m_rs rfl ?_ -- region 4
    refine s_x h rfl rfl (by decide) (x_ld h.k rfl Try.underlying23 rfl rfl ((h.m.cell (i := 1) rfl 0).trans rfl)) (fun a h => ?_)
    refine s_assign h rfl _ rfl rfl (by decide) rfl (fun a h => ?_)
    refine l_nil (e_thenN ?_)
    refine m_ret ?_
    rw [← Option.some.inj hf]
    refine r_retT h (fun w h => ?_)
    exact r_ret1 h rfl (rv_tmp h rfl) ⟨_, [.row (.slice A6 x5.length c7) 3 1 x5.length cs8], _, rfl, ⟨A6, c7, cs8, rfl, rfl, hq9, trivial⟩, rfl, (Up.refl _ _ _), (h.m.pick [1, 2] _ (by decide) rfl)⟩
  · exact hI.elim
def slices_Collect_int_iter0_enc1_int (Fu : Nat) (a0 : List (Int)) : Option ((List Int)) :=
  (slices_AppendSeq___int_int_nils0_iter1_enc1_int Fu a0).bind fun x1 => some x1
set_option maxRecDepth 100000 in
set_option maxHeartbeats 2000000 in
theorem slices_Collect_int_iter0_enc1_int_ok (Fu : Nat) {S0 : Snap} (ita0 : Value) (a0 : List (Int)) (hita0 : IterV Try.prog enc1 ita0 a0 S0) (halla0 : ∀ z ∈ a0, r64 z) (r : (List Int)) (hf : slices_Collect_int_iter0_enc1_int Fu a0 = some r) (w0 : World) (hm : Mem w0 (ownL ([] ++ [.sn S0])) ([] ++ [.sn S0]) w0) :
    Calls Try.prog 30 #[ita0] w0 (Ret w0 S0 [] (fun v L1 S1 => ∃ (A9 : Option Addr), ∃ (c10 : Nat), ∃ (cs11 : List Value), v = .slice A9 r.length c10 ∧ L1 = [.row (.slice A9 r.length c10) 3 1 r.length cs11] ∧ reps tyI S1 cs11 r ∧ True)) := by
  unfold slices_Collect_int_iter0_enc1_int at hf
  refine c_enterM Try.func30 rfl 5 rfl (by simp) _ hm _ rfl (fun a h => ?_)
  refine c_rs ?_ -- region 0
  refine s_assign h rfl _ rfl rfl (by decide) rfl (fun a h => ?_)
  refine l_end ?_
  refine c_rs ?_ -- region 1
  refine s_move h rfl _ rfl rfl (by decide) rfl (fun a h => ?_)
  obtain ⟨x1, h2, hf⟩ := bsome hf
  have hX := slices_AppendSeq___int_int_nils0_iter1_enc1_int_ok Fu (S0 := snapAll _) ita0 a0 (hita0.mono (h.m.leAll (i := 0) rfl)) halla0 _ h2 _ h.startAll
  refine q_callX hX h rfl rfl rfl (by decide) Try.func36 rfl rfl rfl (fun a w v L1 S1 hR hb1 h => ?_)
  obtain ⟨A4, c5, cs6, rfl, rfl, hq7, _⟩ := hR
  have hq8 := hq7.fl (S' := S0) fl_I
  refine s_assign h rfl _ rfl rfl (by decide) rfl (fun a h => ?_)
  refine l_end ?_
  refine wp_ret ?_
  rw [← Option.some.inj hf]
  exact r_ret1 h rfl (rv_tmp h rfl) ⟨_, [.row (.slice A4 x1.length c5) 3 1 x1.length cs6], _, rfl, ⟨A4, c5, cs6, rfl, rfl, hq8, trivial⟩, rfl, (Up.refl _ _ _), h.m⟩
def slices_Sorted_int_iter0_enc1_int (Fu : Nat) (a0 : List (Int)) : Option ((List Int)) :=
  (slices_Collect_int_iter0_enc1_int Fu a0).bind fun x1 => (srt x1).bind fun x14 => some x14
set_option maxRecDepth 100000 in
set_option maxHeartbeats 2000000 in
theorem slices_Sorted_int_iter0_enc1_int_ok (Fu : Nat) {S0 : Snap} (ita0 : Value) (a0 : List (Int)) (hita0 : IterV Try.prog enc1 ita0 a0 S0) (halla0 : ∀ z ∈ a0, r64 z) (r : (List Int)) (hf : slices_Sorted_int_iter0_enc1_int Fu a0 = some r) (w0 : World) (hm : Mem w0 (ownL ([] ++ [.sn S0])) ([] ++ [.sn S0]) w0) :
    Calls Try.prog 22 #[ita0] w0 (Ret w0 S0 [] (fun v L1 S1 => ∃ (A17 : Option Addr), ∃ (c18 : Nat), ∃ (cs19 : List Value), v = .slice A17 r.length c18 ∧ L1 = [.row (.slice A17 r.length c18) 3 1 r.length cs19] ∧ reps tyI S1 cs19 r ∧ True)) := by
  unfold slices_Sorted_int_iter0_enc1_int at hf
  refine c_enterM Try.func22 rfl 9 rfl (by simp) _ hm _ rfl (fun a h => ?_)
  refine c_rs ?_ -- region 0
  refine s_assign h rfl _ rfl rfl (by decide) rfl (fun a h => ?_)
  refine l_end ?_
  refine c_rs ?_ -- region 1
  refine s_move h rfl _ rfl rfl (by decide) rfl (fun a h => ?_)
  obtain ⟨x1, h2, hf⟩ := bsome hf
  have hX := slices_Collect_int_iter0_enc1_int_ok Fu (S0 := snapAll _) ita0 a0 (hita0.mono (h.m.leAll (i := 0) rfl)) halla0 _ h2 _ h.startAll
  refine q_callX hX h rfl rfl rfl (by decide) Try.func30 rfl rfl rfl (fun a w v L1 S1 hR hb1 h => ?_)
  obtain ⟨A4, c5, cs6, rfl, rfl, hq7, _⟩ := hR
  have hq8 := hq7.fl (S' := S0) fl_I
  refine s_assign h rfl _ rfl rfl (by decide) rfl (fun a h => ?_)
  refine l_end ?_
  refine c_rs ?_ -- region 2
  refine s_move h rfl _ rfl rfl (by decide) rfl (fun a h => ?_)
  obtain ⟨x14, h15, hf⟩ := bsome hf
  have hX := sort_ok (S0 := S0) hq8 h15 _ (h.sub (Ls := [.row (.slice A4 x1.length c5) 3 1 x1.length cs6]))
  refine q_callY (Ls := [.row (.slice A4 x1.length c5) 3 1 x1.length cs6]) hX h (Up.refl _ _ _) rfl rfl rfl (by decide) Try.func31 rfl rfl rfl (fun a w v L1 S9 hR le11 up10 h => ?_)
  obtain ⟨cs12, rfl, rfl, hq13, hl16⟩ := hR
  rw [← hl16] at h
  refine l_end ?_
  refine c_rs ?_ -- region 3
  refine s_move h rfl _ rfl rfl (by decide) rfl (fun a h => ?_)
  refine s_assign h rfl _ rfl rfl (by decide) rfl (fun a h => ?_)
  refine l_end ?_
  refine wp_ret ?_
  rw [← Option.some.inj hf]
  exact r_ret1 h rfl (rv_tmp h rfl) ⟨_, [.row (.slice A4 x14.length c5) 3 1 x14.length cs12], _, rfl, ⟨A4, c5, cs12, rfl, rfl, hq13, trivial⟩, rfl, up10, h.m⟩
def know_Set_List (Fu : Nat) (a0 : (List (Int × Int × Int)) × (List Bool) × (List Int) × Bool) : Option ((List Int)) :=
  (know_Set_made Fu a0).bind fun x1 => if (!x1) = true then (some ([])) else ((slices_Values___int_int Fu a0.2.2.1).bind fun x22 => (slices_Sorted_int_iter0_enc1_int Fu x22).bind fun x31 => some x31)
set_option maxRecDepth 100000 in
set_option maxHeartbeats 2000000 in
theorem know_Set_List_ok (Fu : Nat) {S0 : Snap} (ga0 : Nat) (a0 : (List (Int × Int × Int)) × (List Bool) × (List Int) × Bool) (hpa0 : ptS (tyP (tyL (tyP tyI (tyP tyI tyI))) (tyP (tyL tyB) (tyP (tyL tyI) tyB))) S0 ga0 a0) (r : (List Int)) (hf : know_Set_List Fu a0 = some r) (w0 : World) (hm : Mem w0 (ownL ([] ++ [.sn S0])) ([] ++ [.sn S0]) w0) :
    Calls Try.prog 12 #[.pointer (some ⟨ga0, 0, none⟩)] w0 (Ret w0 S0 [] (fun v L1 S1 => ∃ (A39 : Option Addr), ∃ (c40 : Nat), ∃ (cs41 : List Value), v = .slice A39 r.length c40 ∧ L1 = [.row (.slice A39 r.length c40) 3 1 r.length cs41] ∧ reps tyI S1 cs41 r ∧ True)) := by
  unfold know_Set_List at hf
  refine c_enterM Try.func12 rfl 12 rfl (by simp) _ hm _ rfl (fun a h => ?_)
  refine c_rs ?_ -- region 0
  refine s_assign h rfl _ rfl rfl (by decide) rfl (fun a h => ?_)
  refine l_end ?_
  refine wp_seq ?_
  refine c_rs ?_ -- region 1
  refine s_move h rfl _ rfl rfl (by decide) rfl (fun a h => ?_)
  obtain ⟨x1, h2, hf⟩ := bsome hf
  have hX := know_Set_made_ok Fu (S0 := snapAll _) ga0 a0 (hpa0.mono (h.m.leAll (i := 0) rfl)) _ h2 _ h.startAll
  refine q_callX hX h rfl rfl rfl (by decide) Try.func21 rfl rfl rfl (fun a w v L1 S1 hR hb1 h => ?_)
  obtain ⟨rfl, rfl, _⟩ := hR
  refine s_x h rfl rfl (by decide) (x_not h.k rfl rfl) (fun a h => ?_)
  refine l_end ?_
  refine c_cond h rfl (fun hb => ?_) (fun hb => ?_)
  · rw [if_pos hb] at hf
    refine c_rs ?_ -- region 2
    refine s_assign h rfl _ rfl rfl (by decide) rfl (fun a h => ?_)
    refine l_end ?_
    refine wp_ret ?_
    refine e_thenR ?_
    obtain rfl := Option.some.inj hf
    have h := h.mem (h.m.nilrow 3 1)
    exact r_ret1 h rfl (rv_tmp h rfl) ⟨_, [.row (.slice none ([]).length 0) 3 1 ([]).length []], _, rfl, ⟨none, 0, [], rfl, rfl, (show reps tyI S0 [] [] from rfl), trivial⟩, rfl, (Up.refl _ _ _), h.m⟩
  · rw [if_neg (by rw [hb]; decide)] at hf
    refine wp_skip ?_
    refine e_thenN ?_
    refine c_rs ?_ -- region 3
    refine s_move h rfl _ rfl rfl (by decide) rfl (fun a h => ?_)
    obtain ⟨k5, hc6, ⟨k7, k8, rfl, ⟨A9, c10, rfl, hs11⟩, ⟨k12, k13, rfl, ⟨A14, c15, rfl, hs16⟩, ⟨k17, k18, rfl, ⟨A19, c20, rfl, hs21⟩, rfl⟩⟩⟩⟩ := id hpa0
    refine s_x h rfl rfl (by decide) (x_nil h.k rfl rfl) (fun a h => ?_)
    refine s_x h rfl rfl (by decide) (x_faddr h.k rfl Try.underlying54 rfl sz_Sint rfl) (fun a h => ?_)
    refine s_x h rfl rfl (by decide) (x_ld h.k rfl Try.underlying23 rfl rfl (hc6 _ (h.m.snOK (i := 0) rfl) 2 _ rfl)) (fun a h => ?_)
    obtain ⟨x22, h23, hf⟩ := bsome hf
    have hX := slices_Values___int_int_ok Fu (S0 := S0) A19 c20 a0.2.2.1 hs21 _ h23 _ (h.sub (Ls := []))
    refine q_callY (Ls := []) hX h (Up.refl _ _ _) rfl rfl rfl (by decide) Try.func23 rfl rfl rfl (fun a w v L1 S25 hR le27 up26 h => ?_)
    obtain ⟨hit29, rfl, hall30, _⟩ := hR
    obtain ⟨it28, rfl⟩ : ∃ x, x = v := ⟨_, rfl⟩
    obtain ⟨x31, h32, hf⟩ := bsome hf
    have hX := slices_Sorted_int_iter0_enc1_int_ok Fu (S0 := snapAll _) it28 x22 (hit29.mono (h.m.leAll (i := 0) rfl)) hall30 _ h32 _ h.startAll
    refine q_callX hX h rfl rfl rfl (by decide) Try.func22 rfl rfl rfl (fun a w v L1 S1 hR hb1 h => ?_)
    obtain ⟨A34, c35, cs36, rfl, rfl, hq37, _⟩ := hR
    have hq38 := hq37.fl (S' := S25) fl_I
    refine s_assign h rfl _ rfl rfl (by decide) rfl (fun a h => ?_)
    refine l_end ?_
    refine wp_ret ?_
    rw [← Option.some.inj hf]
    exact r_ret1 h rfl (rv_tmp h rfl) ⟨_, [.row (.slice A34 x31.length c35) 3 1 x31.length cs36], _, rfl, ⟨A34, c35, cs36, rfl, rfl, hq38, trivial⟩, rfl, up26, h.m⟩
def know_Set_List_nil0 (Fu : Nat) : Option ((List Int)) :=
  (know_Set_made_nil0 Fu).bind fun x1 => some ([])
set_option maxRecDepth 100000 in
set_option maxHeartbeats 2000000 in
theorem know_Set_List_nil0_ok (Fu : Nat) {S0 : Snap}  (r : (List Int)) (hf : know_Set_List_nil0 Fu = some r) (w0 : World) (hm : Mem w0 (ownL ([] ++ [.sn S0])) ([] ++ [.sn S0]) w0) :
    Calls Try.prog 12 #[.pointer none] w0 (Ret w0 S0 [] (fun v L1 S1 => ∃ (A5 : Option Addr), ∃ (c6 : Nat), ∃ (cs7 : List Value), v = .slice A5 r.length c6 ∧ L1 = [.row (.slice A5 r.length c6) 3 1 r.length cs7] ∧ reps tyI S1 cs7 r ∧ True)) := by
  unfold know_Set_List_nil0 at hf
  refine c_enterM Try.func12 rfl 12 rfl (by simp) _ hm _ rfl (fun a h => ?_)
  refine c_rs ?_ -- region 0
  refine s_assign h rfl _ rfl rfl (by decide) rfl (fun a h => ?_)
  refine l_end ?_
  refine wp_seq ?_
  refine c_rs ?_ -- region 1
  refine s_move h rfl _ rfl rfl (by decide) rfl (fun a h => ?_)
  obtain ⟨x1, h2, hf⟩ := bsome hf
  have hX := know_Set_made_nil0_ok Fu (S0 := snapAll _)  _ h2 _ h.startAll
  refine q_callX hX h rfl rfl rfl (by decide) Try.func21 rfl rfl rfl (fun a w v L1 S1 hR hb1 h => ?_)
  obtain ⟨rfl, rfl, _⟩ := hR
  obtain rfl : x1 = false := by unfold know_Set_made_nil0 at h2; exact (Option.some.inj h2).symm
  refine s_x h rfl rfl (by decide) (x_not h.k rfl rfl) (fun a h => ?_)
  refine l_end ?_
  refine c_cond h rfl (fun hb => ?_) (fun hb => ?_)
  · refine c_rs ?_ -- region 2
    refine s_assign h rfl _ rfl rfl (by decide) rfl (fun a h => ?_)
    refine l_end ?_
    refine wp_ret ?_
    refine e_thenR ?_
    obtain rfl := Option.some.inj hf
    have h := h.mem (h.m.nilrow 3 1)
    exact r_ret1 h rfl (rv_tmp h rfl) ⟨_, [.row (.slice none ([]).length 0) 3 1 ([]).length []], _, rfl, ⟨none, 0, [], rfl, rfl, (show reps tyI S0 [] [] from rfl), trivial⟩, rfl, (Up.refl _ _ _), h.m⟩
  · exact absurd hb (by decide)
end
end Go.Proofs.Ytnjmlihmnkbgdaa
