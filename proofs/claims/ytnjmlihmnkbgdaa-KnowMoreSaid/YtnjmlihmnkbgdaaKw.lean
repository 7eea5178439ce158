/- Kw: Go functions as plain functions, and that they are so (written by xt.py). -/
import Derived.Test.YtnjmlihmnkbgdaaKx
set_option linter.unusedVariables false
set_option linter.unusedSimpArgs false
namespace Go.Proofs.Ytnjmlihmnkbgdaa
open Go.RowKit
def chatelainelaw37_KnowMore_l0 (Fu : Nat) (x208 : (List Int)) : Nat → Int → Option (Sum Bool Unit)
  | 0, _ => none
  | k + 1, x219 => if x219 < (x208.length : Int) then ((ix x208.length x219).bind fun m223 => (x208[m223]?).bind fun x229 => (know_Set_Has_nil0 Fu x229).bind fun x236 => if (!x236) = true then (some (.inl false)) else (chatelainelaw37_KnowMore_l0 Fu x208 k (w64 (x219 + 1)))) else (some (.inr ()))
def chatelainelaw37_KnowMore_l1 (Fu : Nat) (x310 : (List Int)) : Nat → Int → Option (Sum Bool Unit)
  | 0, _ => none
  | k + 1, x321 => if x321 < (x310.length : Int) then ((ix x310.length x321).bind fun m325 => (x310[m325]?).bind fun x331 => (know_Set_Has_nil0 Fu x331).bind fun x338 => if (!x338) = true then (some (.inl false)) else (chatelainelaw37_KnowMore_l1 Fu x310 k (w64 (x321 + 1)))) else (some (.inr ()))
def chatelainelaw37_KnowMore_l2 (Fu : Nat) (x446 : (List Int)) : Nat → Int → Option (Sum Bool Unit)
  | 0, _ => none
  | k + 1, x457 => if x457 < (x446.length : Int) then ((ix x446.length x457).bind fun m461 => (x446[m461]?).bind fun x467 => (know_Set_Has_nil0 Fu x467).bind fun x474 => if (!x474) = true then (some (.inl false)) else (chatelainelaw37_KnowMore_l2 Fu x446 k (w64 (x457 + 1)))) else (some (.inr ()))
def chatelainelaw37_KnowMore_l3 (Fu : Nat) (x548 : (List Int)) : Nat → Int → Option (Sum Bool Unit)
  | 0, _ => none
  | k + 1, x559 => if x559 < (x548.length : Int) then ((ix x548.length x559).bind fun m563 => (x548[m563]?).bind fun x569 => (know_Set_Has_nil0 Fu x569).bind fun x576 => if (!x576) = true then (some (.inl false)) else (chatelainelaw37_KnowMore_l3 Fu x548 k (w64 (x559 + 1)))) else (some (.inr ()))
def chatelainelaw37_KnowMore_l4 (Fu : Nat) (x748 : (List Int)) : Nat → Int → Option (Sum Bool Unit)
  | 0, _ => none
  | k + 1, x759 => if x759 < (x748.length : Int) then ((ix x748.length x759).bind fun m763 => (x748[m763]?).bind fun x769 => (know_Set_Has_nil0 Fu x769).bind fun x776 => if (!x776) = true then (some (.inl false)) else (chatelainelaw37_KnowMore_l4 Fu x748 k (w64 (x759 + 1)))) else (some (.inr ()))
def chatelainelaw37_KnowMore_l5 (Fu : Nat) (x850 : (List Int)) : Nat → Int → Option (Sum Bool Unit)
  | 0, _ => none
  | k + 1, x861 => if x861 < (x850.length : Int) then ((ix x850.length x861).bind fun m865 => (x850[m865]?).bind fun x871 => (know_Set_Has_nil0 Fu x871).bind fun x878 => if (!x878) = true then (some (.inl false)) else (chatelainelaw37_KnowMore_l5 Fu x850 k (w64 (x861 + 1)))) else (some (.inr ()))
def chatelainelaw37_KnowMore_l6 (Fu : Nat) (x986 : (List Int)) : Nat → Int → Option (Sum Bool Unit)
  | 0, _ => none
  | k + 1, x997 => if x997 < (x986.length : Int) then ((ix x986.length x997).bind fun m1001 => (x986[m1001]?).bind fun x1007 => (know_Set_Has_nil0 Fu x1007).bind fun x1014 => if (!x1014) = true then (some (.inl false)) else (chatelainelaw37_KnowMore_l6 Fu x986 k (w64 (x997 + 1)))) else (some (.inr ()))
def chatelainelaw37_KnowMore_l7 (Fu : Nat) (x1088 : (List Int)) : Nat → Int → Option (Sum Bool Unit)
  | 0, _ => none
  | k + 1, x1099 => if x1099 < (x1088.length : Int) then ((ix x1088.length x1099).bind fun m1103 => (x1088[m1103]?).bind fun x1109 => (know_Set_Has_nil0 Fu x1109).bind fun x1116 => if (!x1116) = true then (some (.inl false)) else (chatelainelaw37_KnowMore_l7 Fu x1088 k (w64 (x1099 + 1)))) else (some (.inr ()))
def chatelainelaw37_KnowMore_l8 (Fu : Nat) (x1120 : ((List (Int × Int × Int)) × (List Bool) × (List Int) × Bool) × Int) (x1255 : (List Int)) : Nat → Int → Option (Sum Bool Unit)
  | 0, _ => none
  | k + 1, x1266 => if x1266 < (x1255.length : Int) then ((ix x1255.length x1266).bind fun m1270 => (x1255[m1270]?).bind fun x1276 => (know_Set_Has Fu x1120.1 x1276).bind fun x1283 => if (!x1283) = true then (some (.inl false)) else (chatelainelaw37_KnowMore_l8 Fu x1120 x1255 k (w64 (x1266 + 1)))) else (some (.inr ()))
def chatelainelaw37_KnowMore_l9 (Fu : Nat) (x1120 : ((List (Int × Int × Int)) × (List Bool) × (List Int) × Bool) × Int) (x1357 : (List Int)) : Nat → Int → Option (Sum Bool Unit)
  | 0, _ => none
  | k + 1, x1368 => if x1368 < (x1357.length : Int) then ((ix x1357.length x1368).bind fun m1372 => (x1357[m1372]?).bind fun x1378 => (know_Set_Has Fu x1120.1 x1378).bind fun x1385 => if (!x1385) = true then (some (.inl false)) else (chatelainelaw37_KnowMore_l9 Fu x1120 x1357 k (w64 (x1368 + 1)))) else (some (.inr ()))
def chatelainelaw37_KnowMore_l10 (Fu : Nat) (x1120 : ((List (Int × Int × Int)) × (List Bool) × (List Int) × Bool) × Int) (x1493 : (List Int)) : Nat → Int → Option (Sum Bool Unit)
  | 0, _ => none
  | k + 1, x1504 => if x1504 < (x1493.length : Int) then ((ix x1493.length x1504).bind fun m1508 => (x1493[m1508]?).bind fun x1514 => (know_Set_Has Fu x1120.1 x1514).bind fun x1521 => if (!x1521) = true then (some (.inl false)) else (chatelainelaw37_KnowMore_l10 Fu x1120 x1493 k (w64 (x1504 + 1)))) else (some (.inr ()))
def chatelainelaw37_KnowMore_l11 (Fu : Nat) (x1120 : ((List (Int × Int × Int)) × (List Bool) × (List Int) × Bool) × Int) (x1595 : (List Int)) : Nat → Int → Option (Sum Bool Unit)
  | 0, _ => none
  | k + 1, x1606 => if x1606 < (x1595.length : Int) then ((ix x1595.length x1606).bind fun m1610 => (x1595[m1610]?).bind fun x1616 => (know_Set_Has Fu x1120.1 x1616).bind fun x1623 => if (!x1623) = true then (some (.inl false)) else (chatelainelaw37_KnowMore_l11 Fu x1120 x1595 k (w64 (x1606 + 1)))) else (some (.inr ()))
def chatelainelaw37_KnowMore (Fu : Nat) (a0 : List (Int × Int × Int)) (a1 : List Int) (a2 : List Int) : Option Bool :=
  (chatelainelaw37_awake Fu).bind fun x1 => if (!x1) = true then (some false) else ((know_Set_More_nil0 Fu ([])).bind fun x4 => (if x4 ≠ 1 then some true else (know_Set_Has_nil0 Fu 0).bind fun x14 => some x14).bind fun z12 => (if z12 = true then some true else (know_Set_Len_nil0 Fu).bind fun x20 => (know_Set_List_nil0 Fu).bind fun x24 => some (decide (w64 (x20 + (x24.length : Int)) ≠ 0))).bind fun z18 => if z18 = true then (some false) else (if (((decide (40 < (a0.length : Int))) || (decide (40 < (a1.length : Int)))) || (decide (40 < (a2.length : Int)))) = true then (some true) else ((chatelainelaw37_made Fu a0).bind fun x37 => (know_From Fu x37.1 a1).bind fun x60 => (match x60 with | .inl x66 => (if x66.1 ≠ 0 then (some true) else ((know_Set_More_nil0 Fu a2).bind fun x80 => (app 8 ([]) a1).bind fun x88 => (app 8 x88 a2).bind fun x97 => (know_From Fu x66.2 x97).bind fun x110 => (match x110 with | .inl x116 => (if x80 ≠ x116.1 then (some false) else (if x80 ≠ 0 then (some true) else ((know_Set_List_nil0 Fu).bind fun x132 => (know_From Fu x116.2 x132).bind fun x144 => (match x144 with | .inl x150 => ((if x150.1 ≠ 0 then some true else (know_Set_List_nil0 Fu).bind fun x167 => (know_Set_List_nil0 Fu).bind fun x175 => (chatelaineref01_Ints Fu x167 x175).bind fun x183 => some (!x183)).bind fun z165 => (if z165 = true then some true else (know_Set_List_nil0 Fu).bind fun x189 => (know_Set_List_nil0 Fu).bind fun x197 => (chatelaineref01_Ints Fu x189 x197).bind fun x205 => some (!x205)).bind fun z187 => if z187 = true then (some false) else ((know_Set_List_nil0 Fu).bind fun x208 => (chatelainelaw37_KnowMore_l0 Fu x208 Fu 0).bind fun o => match o with | .inl r239 => some r239 | .inr _ => some true)) | .inr x240 => ((if x240.2.1 ≠ 0 then some true else (know_Set_List_nil0 Fu).bind fun x269 => (know_Set_List_nil0 Fu).bind fun x277 => (chatelaineref01_Ints Fu x269 x277).bind fun x285 => some (!x285)).bind fun z267 => (if z267 = true then some true else (know_Set_List Fu x240.1).bind fun x291 => (know_Set_List_nil0 Fu).bind fun x299 => (chatelaineref01_Ints Fu x291 x299).bind fun x307 => some (!x307)).bind fun z289 => if z289 = true then (some false) else ((know_Set_List_nil0 Fu).bind fun x310 => (chatelainelaw37_KnowMore_l1 Fu x310 Fu 0).bind fun o => match o with | .inl r341 => some r341 | .inr _ => some true)))))) | .inr x342 => (if x80 ≠ x342.2.1 then (some false) else (if x80 ≠ 0 then (some false) else ((know_Set_List_nil0 Fu).bind fun x370 => (know_From Fu x342.2.2 x370).bind fun x382 => (match x382 with | .inl x388 => ((if x388.1 ≠ 0 then some true else (know_Set_List_nil0 Fu).bind fun x405 => (know_Set_List Fu x342.1).bind fun x413 => (chatelaineref01_Ints Fu x405 x413).bind fun x421 => some (!x421)).bind fun z403 => (if z403 = true then some true else (know_Set_List_nil0 Fu).bind fun x427 => (know_Set_List_nil0 Fu).bind fun x435 => (chatelaineref01_Ints Fu x427 x435).bind fun x443 => some (!x443)).bind fun z425 => if z425 = true then (some false) else ((know_Set_List_nil0 Fu).bind fun x446 => (chatelainelaw37_KnowMore_l2 Fu x446 Fu 0).bind fun o => match o with | .inl r477 => some r477 | .inr _ => some true)) | .inr x478 => ((if x478.2.1 ≠ 0 then some true else (know_Set_List_nil0 Fu).bind fun x507 => (know_Set_List Fu x342.1).bind fun x515 => (chatelaineref01_Ints Fu x507 x515).bind fun x523 => some (!x523)).bind fun z505 => (if z505 = true then some true else (know_Set_List Fu x478.1).bind fun x529 => (know_Set_List_nil0 Fu).bind fun x537 => (chatelaineref01_Ints Fu x529 x537).bind fun x545 => some (!x545)).bind fun z527 => if z527 = true then (some false) else ((know_Set_List_nil0 Fu).bind fun x548 => (chatelainelaw37_KnowMore_l3 Fu x548 Fu 0).bind fun o => match o with | .inl r579 => some r579 | .inr _ => some true))))))))) | .inr x580 => (if x580.2.1 ≠ 0 then (some false) else ((know_Set_More Fu (x580.1.1, x580.1.2.1, x580.1.2.2.1, x580.1.2.2.2) a2).bind fun x619 => (match x619 with | .inl x625 => ((app 8 ([]) a1).bind fun x628 => (app 8 x628 a2).bind fun x637 => (know_From Fu x580.2.2 x637).bind fun x650 => (match x650 with | .inl x656 => (if x625 ≠ x656.1 then (some false) else (if x625 ≠ 0 then (some true) else ((know_Set_List_nil0 Fu).bind fun x672 => (know_From Fu x656.2 x672).bind fun x684 => (match x684 with | .inl x690 => ((if x690.1 ≠ 0 then some true else (know_Set_List_nil0 Fu).bind fun x707 => (know_Set_List_nil0 Fu).bind fun x715 => (chatelaineref01_Ints Fu x707 x715).bind fun x723 => some (!x723)).bind fun z705 => (if z705 = true then some true else (know_Set_List_nil0 Fu).bind fun x729 => (know_Set_List_nil0 Fu).bind fun x737 => (chatelaineref01_Ints Fu x729 x737).bind fun x745 => some (!x745)).bind fun z727 => if z727 = true then (some false) else ((know_Set_List Fu (x580.1.1, x580.1.2.1, x580.1.2.2.1, x580.1.2.2.2)).bind fun x748 => (chatelainelaw37_KnowMore_l4 Fu x748 Fu 0).bind fun o => match o with | .inl r779 => some r779 | .inr _ => some true)) | .inr x780 => ((if x780.2.1 ≠ 0 then some true else (know_Set_List_nil0 Fu).bind fun x809 => (know_Set_List_nil0 Fu).bind fun x817 => (chatelaineref01_Ints Fu x809 x817).bind fun x825 => some (!x825)).bind fun z807 => (if z807 = true then some true else (know_Set_List Fu x780.1).bind fun x831 => (know_Set_List_nil0 Fu).bind fun x839 => (chatelaineref01_Ints Fu x831 x839).bind fun x847 => some (!x847)).bind fun z829 => if z829 = true then (some false) else ((know_Set_List Fu (x580.1.1, x580.1.2.1, x580.1.2.2.1, x580.1.2.2.2)).bind fun x850 => (chatelainelaw37_KnowMore_l5 Fu x850 Fu 0).bind fun o => match o with | .inl r881 => some r881 | .inr _ => some true)))))) | .inr x882 => (if x625 ≠ x882.2.1 then (some false) else (if x625 ≠ 0 then (some false) else ((know_Set_List_nil0 Fu).bind fun x910 => (know_From Fu x882.2.2 x910).bind fun x922 => (match x922 with | .inl x928 => ((if x928.1 ≠ 0 then some true else (know_Set_List_nil0 Fu).bind fun x945 => (know_Set_List Fu x882.1).bind fun x953 => (chatelaineref01_Ints Fu x945 x953).bind fun x961 => some (!x961)).bind fun z943 => (if z943 = true then some true else (know_Set_List_nil0 Fu).bind fun x967 => (know_Set_List_nil0 Fu).bind fun x975 => (chatelaineref01_Ints Fu x967 x975).bind fun x983 => some (!x983)).bind fun z965 => if z965 = true then (some false) else ((know_Set_List Fu (x580.1.1, x580.1.2.1, x580.1.2.2.1, x580.1.2.2.2)).bind fun x986 => (chatelainelaw37_KnowMore_l6 Fu x986 Fu 0).bind fun o => match o with | .inl r1017 => some r1017 | .inr _ => some true)) | .inr x1018 => ((if x1018.2.1 ≠ 0 then some true else (know_Set_List_nil0 Fu).bind fun x1047 => (know_Set_List Fu x882.1).bind fun x1055 => (chatelaineref01_Ints Fu x1047 x1055).bind fun x1063 => some (!x1063)).bind fun z1045 => (if z1045 = true then some true else (know_Set_List Fu x1018.1).bind fun x1069 => (know_Set_List_nil0 Fu).bind fun x1077 => (chatelaineref01_Ints Fu x1069 x1077).bind fun x1085 => some (!x1085)).bind fun z1067 => if z1067 = true then (some false) else ((know_Set_List Fu (x580.1.1, x580.1.2.1, x580.1.2.2.1, x580.1.2.2.2)).bind fun x1088 => (chatelainelaw37_KnowMore_l7 Fu x1088 Fu 0).bind fun o => match o with | .inl r1119 => some r1119 | .inr _ => some true)))))))) | .inr x1120 => ((app 8 ([]) a1).bind fun x1135 => (app 8 x1135 a2).bind fun x1144 => (know_From Fu x580.2.2 x1144).bind fun x1157 => (match x1157 with | .inl x1163 => (if x1120.2 ≠ x1163.1 then (some false) else (if x1120.2 ≠ 0 then (some false) else ((know_Set_List Fu x1120.1).bind fun x1179 => (know_From Fu x1163.2 x1179).bind fun x1191 => (match x1191 with | .inl x1197 => ((if x1197.1 ≠ 0 then some true else (know_Set_List Fu x1120.1).bind fun x1214 => (know_Set_List_nil0 Fu).bind fun x1222 => (chatelaineref01_Ints Fu x1214 x1222).bind fun x1230 => some (!x1230)).bind fun z1212 => (if z1212 = true then some true else (know_Set_List_nil0 Fu).bind fun x1236 => (know_Set_List Fu x1120.1).bind fun x1244 => (chatelaineref01_Ints Fu x1236 x1244).bind fun x1252 => some (!x1252)).bind fun z1234 => if z1234 = true then (some false) else ((know_Set_List Fu (x580.1.1, x580.1.2.1, x580.1.2.2.1, x580.1.2.2.2)).bind fun x1255 => (chatelainelaw37_KnowMore_l8 Fu x1120 x1255 Fu 0).bind fun o => match o with | .inl r1286 => some r1286 | .inr _ => some true)) | .inr x1287 => ((if x1287.2.1 ≠ 0 then some true else (know_Set_List Fu x1120.1).bind fun x1316 => (know_Set_List_nil0 Fu).bind fun x1324 => (chatelaineref01_Ints Fu x1316 x1324).bind fun x1332 => some (!x1332)).bind fun z1314 => (if z1314 = true then some true else (know_Set_List Fu x1287.1).bind fun x1338 => (know_Set_List Fu x1120.1).bind fun x1346 => (chatelaineref01_Ints Fu x1338 x1346).bind fun x1354 => some (!x1354)).bind fun z1336 => if z1336 = true then (some false) else ((know_Set_List Fu (x580.1.1, x580.1.2.1, x580.1.2.2.1, x580.1.2.2.2)).bind fun x1357 => (chatelainelaw37_KnowMore_l9 Fu x1120 x1357 Fu 0).bind fun o => match o with | .inl r1388 => some r1388 | .inr _ => some true)))))) | .inr x1389 => (if x1120.2 ≠ x1389.2.1 then (some false) else (if x1120.2 ≠ 0 then (some false) else ((know_Set_List Fu x1120.1).bind fun x1417 => (know_From Fu x1389.2.2 x1417).bind fun x1429 => (match x1429 with | .inl x1435 => ((if x1435.1 ≠ 0 then some true else (know_Set_List Fu x1120.1).bind fun x1452 => (know_Set_List Fu x1389.1).bind fun x1460 => (chatelaineref01_Ints Fu x1452 x1460).bind fun x1468 => some (!x1468)).bind fun z1450 => (if z1450 = true then some true else (know_Set_List_nil0 Fu).bind fun x1474 => (know_Set_List Fu x1120.1).bind fun x1482 => (chatelaineref01_Ints Fu x1474 x1482).bind fun x1490 => some (!x1490)).bind fun z1472 => if z1472 = true then (some false) else ((know_Set_List Fu (x580.1.1, x580.1.2.1, x580.1.2.2.1, x580.1.2.2.2)).bind fun x1493 => (chatelainelaw37_KnowMore_l10 Fu x1120 x1493 Fu 0).bind fun o => match o with | .inl r1524 => some r1524 | .inr _ => some true)) | .inr x1525 => ((if x1525.2.1 ≠ 0 then some true else (know_Set_List Fu x1120.1).bind fun x1554 => (know_Set_List Fu x1389.1).bind fun x1562 => (chatelaineref01_Ints Fu x1554 x1562).bind fun x1570 => some (!x1570)).bind fun z1552 => (if z1552 = true then some true else (know_Set_List Fu x1525.1).bind fun x1576 => (know_Set_List Fu x1120.1).bind fun x1584 => (chatelaineref01_Ints Fu x1576 x1584).bind fun x1592 => some (!x1592)).bind fun z1574 => if z1574 = true then (some false) else ((know_Set_List Fu (x580.1.1, x580.1.2.1, x580.1.2.2.1, x580.1.2.2.2)).bind fun x1595 => (chatelainelaw37_KnowMore_l11 Fu x1120 x1595 Fu 0).bind fun o => match o with | .inl r1626 => some r1626 | .inr _ => some true)))))))))))))))
set_option maxRecDepth 100000 in
set_option maxHeartbeats 2000000 in
theorem chatelainelaw37_KnowMore_ok (Fu : Nat) {S0 : Snap} (Aa0 : Option Addr) (ca0 : Nat) (a0 : List (Int × Int × Int)) (hsa0 : slS (tyP tyI (tyP tyI tyI)) S0 Aa0 ca0 a0) (Aa1 : Option Addr) (ca1 : Nat) (a1 : List Int) (hsa1 : slS tyI S0 Aa1 ca1 a1) (Aa2 : Option Addr) (ca2 : Nat) (a2 : List Int) (hsa2 : slS tyI S0 Aa2 ca2 a2) (r : Bool) (hf : chatelainelaw37_KnowMore Fu a0 a1 a2 = some r) (w0 : World) (hm : Mem w0 (ownL ([] ++ [.sn S0])) ([] ++ [.sn S0]) w0) :
    Calls Try.prog 4 #[.slice Aa0 a0.length ca0, .slice Aa1 a1.length ca1, .slice Aa2 a2.length ca2] w0 (Ret w0 S0 [] (fun v L1 S1 => v = .bool r ∧ L1 = [] ∧ True)) := by
  unfold chatelainelaw37_KnowMore at hf
  refine c_enterM Try.func4 rfl 136 rfl (by simp) _ hm _ rfl (fun a h => ?_)
  refine c_rs ?_
  refine sAV h (fun a h => ?_)
  refine l_end ?_
  refine wp_seq ?_
  refine c_rs ?_
  obtain ⟨x1, h2, hf⟩ := bsome hf
  have hX := chatelainelaw37_awake_ok Fu (S0 := snapAll _)  _ h2 _ h.startAll
  refine q_callX hX h rfl rfl rfl (by decide) Try.func5 rfl rfl rfl (fun a w v L1 S1 hR hb1 h => ?_)
  obtain ⟨rfl, rfl, _⟩ := hR
  refine s_x h rfl rfl (by decide) (x_not h.k rfl rfl) (fun a h => ?_)
  refine l_end ?_
  refine c_cond h rfl (fun hb => ?_) (fun hb => ?_)
  · rw [if_pos hb] at hf
    refine c_rs ?_
    refine sAV h (fun a h => ?_)
    refine l_end ?_
    refine wp_ret ?_
    refine e_thenR ?_
    rw [← Option.some.inj hf]
    exact r_ret1 h rfl (rv_tmp h rfl) ⟨_, [], _, rfl, ⟨rfl, rfl, trivial⟩, rfl, (Up.refl _ _ _), h.m⟩
  · rw [if_neg (by rw [hb]; decide)] at hf
    refine wp_skip ?_
    refine e_thenN ?_
    refine c_rs ?_
    refine sAV h (fun a h => ?_)
    refine l_end ?_
    refine wp_seq ?_
    refine c_rs ?_
    refine sMV h (fun a h => ?_)
    obtain ⟨x4, h5, hf⟩ := bsome hf
    have hX := know_Set_More_nil0_ok Fu (S0 := S0) none 0 [] (slS.nil _ _) _ h5 _ (h.sub (Ls := []))
    refine q_callY (Ls := []) hX h (Up.refl _ _ _) rfl rfl rfl (by decide) Try.func14 rfl rfl rfl (fun a w v L1 S7 hR le9 up8 h => ?_)
    obtain ⟨rfl, rfl, hr10, _⟩ := hR
    refine sMV h (fun a h => ?_)
    refine s_x h rfl rfl (by decide) (x_ext h.k rfl rfl rfl) (fun a h => ?_)
    refine s_x h rfl rfl (by decide) (x_ext h.k rfl rfl rfl) (fun a h => ?_)
    refine sAV h (fun a h => ?_)
    refine sAV h (fun a h => ?_)
    refine l_end ?_
    refine c_rs ?_
    refine sMV h (fun a h => ?_)
    refine s_x h rfl rfl (by decide) (x_bin h.k rfl rfl rfl ib_neq) (fun a h => ?_)
    refine sMV h (fun a h => ?_)
    obtain ⟨z12, hz11, hf⟩ := bsome hf
    refine q_grp h 3 (t := 31) 34 z12 rfl (fun hB2 => ?_) (fun hB2 => ?_) (fun a w h => ?_)
    · refine g_no h rfl rfl rfl rfl hB2 rfl (by decide) (fun a h => ?_)
      refine g_no h rfl rfl rfl rfl hB2 rfl (by decide) (fun a h => ?_)
      rw [if_pos (of_decide_eq_true hB2)] at hz11
      refine s_x h rfl rfl (by decide) (x_pick (u' := undef) h.k rfl rfl (fun _ => rfl) (fun hh => absurd (hB2.symm.trans hh) (by decide))) (fun a h => ?_)
      exact (h.mid 2 rfl).val (by rw [Option.some.inj hz11])
    · rw [if_neg (of_decide_eq_false hB2)] at hz11
      refine g_yes h rfl rfl rfl rfl hB2 ?_
      refine sMV h (fun a h => ?_)
      refine g_yes h rfl rfl rfl rfl hB2 ?_
      obtain ⟨x14, h15, hz11⟩ := bsome hz11
      have hX := know_Set_Has_nil0_ok Fu (S0 := snapAll _) 0 (show r64 0 from ⟨by decide, by decide⟩) _ h15 _ h.startAll
      refine q_callX hX h rfl rfl rfl (by decide) Try.func10 rfl rfl rfl (fun a w v L1 S1 hR hb1 h => ?_)
      obtain ⟨rfl, rfl, _⟩ := hR
      refine s_x h rfl rfl (by decide) (x_pick (u' := undef) h.k rfl rfl (fun hh => absurd (hB2.symm.trans hh) (by decide)) (fun _ => rfl)) (fun a h => ?_)
      exact (h.mid 2 rfl).val (by rw [Option.some.inj hz11])
    refine sMV h (fun a h => ?_)
    obtain ⟨z18, hz17, hf⟩ := bsome hf
    refine q_grp h 8 (t := 35) 43 z18 rfl (fun hB6 => ?_) (fun hB6 => ?_) (fun a w h => ?_)
    · refine g_no h rfl rfl rfl rfl hB6 rfl (by decide) (fun a h => ?_)
      refine g_no h rfl rfl rfl rfl hB6 rfl (by decide) (fun a h => ?_)
      refine g_no h rfl rfl rfl rfl hB6 rfl (by decide) (fun a h => ?_)
      refine g_no h rfl rfl rfl rfl hB6 rfl (by decide) (fun a h => ?_)
      refine g_no h rfl rfl rfl rfl hB6 rfl (by decide) (fun a h => ?_)
      refine g_no h rfl rfl rfl rfl hB6 rfl (by decide) (fun a h => ?_)
      refine g_no h rfl rfl rfl rfl hB6 rfl (by decide) (fun a h => ?_)
      rw [if_pos hB6] at hz17
      refine s_x h rfl rfl (by decide) (x_pick (u' := undef) h.k rfl rfl (fun _ => rfl) (fun hh => absurd (hB6.symm.trans hh) (by decide))) (fun a h => ?_)
      exact (h.mid 7 rfl).val (by rw [Option.some.inj hz17])
    · rw [if_neg (by rw [hB6]; decide)] at hz17
      refine g_yes h rfl rfl rfl rfl hB6 ?_
      refine sMV h (fun a h => ?_)
      refine g_yes h rfl rfl rfl rfl hB6 ?_
      obtain ⟨x20, h21, hz17⟩ := bsome hz17
      have hX := know_Set_Len_nil0_ok Fu (S0 := snapAll _)  _ h21 _ h.startAll
      refine q_callX hX h rfl rfl rfl (by decide) Try.func13 rfl rfl rfl (fun a w v L1 S1 hR hb1 h => ?_)
      obtain ⟨rfl, rfl, hr23, _⟩ := hR
      refine g_yes h rfl rfl rfl rfl hB6 ?_
      refine sMV h (fun a h => ?_)
      refine g_yes h rfl rfl rfl rfl hB6 ?_
      obtain ⟨x24, h25, hz17⟩ := bsome hz17
      have hX := know_Set_List_nil0_ok Fu (S0 := snapAll _)  _ h25 _ h.startAll
      refine q_callX hX h rfl rfl rfl (by decide) Try.func12 rfl rfl rfl (fun a w v L1 S1 hR hb1 h => ?_)
      obtain ⟨A27, c28, cs29, rfl, rfl, hq30, _⟩ := hR
      have hq31 := hq30.fl (S' := S7) fl_I
      refine g_yes h rfl rfl rfl rfl hB6 ?_
      have hr32 : r64 (x24.length : Int) := len_r (h.m.rowLen (i := 0) rfl)
      refine s_x h rfl rfl (by decide) (x_len h.k rfl Try.underlying23 rfl) (fun a h => ?_)
      refine g_yes h rfl rfl rfl rfl hB6 ?_
      refine s_x h rfl rfl (by decide) (x_bin h.k rfl rfl rfl (ib_add rfl)) (fun a h => ?_)
      refine g_yes h rfl rfl rfl rfl hB6 ?_
      refine s_x h rfl rfl (by decide) (x_bin h.k rfl rfl rfl ib_neq) (fun a h => ?_)
      refine s_x h rfl rfl (by decide) (x_pick (u' := undef) h.k rfl rfl (fun hh => absurd (hB6.symm.trans hh) (by decide)) (fun _ => rfl)) (fun a h => ?_)
      have h := h.pick [1] (by decide) rfl
      exact (h.mid 7 rfl).val (by rw [Option.some.inj hz17])
    refine l_end ?_
    refine c_cond h rfl (fun hb => ?_) (fun hb => ?_)
    · rw [if_pos hb] at hf
      refine c_rs ?_
      refine sAV h (fun a h => ?_)
      refine l_end ?_
      refine wp_ret ?_
      refine e_thenR ?_
      rw [← Option.some.inj hf]
      exact r_ret1 h rfl (rv_tmp h rfl) ⟨_, [], _, rfl, ⟨rfl, rfl, trivial⟩, rfl, up8, h.m⟩
    · rw [if_neg (by rw [hb]; decide)] at hf
      refine wp_skip ?_
      refine e_thenN ?_
      refine wp_seq ?_
      refine c_rs ?_
      refine sMV h (fun a h => ?_)
      refine s_x h rfl rfl (by decide) (x_len h.k rfl Try.underlying22 rfl) (fun a h => ?_)
      refine s_x h rfl rfl (by decide) (x_bin h.k rfl rfl rfl ib_gtr) (fun a h => ?_)
      refine sMV h (fun a h => ?_)
      refine q_grp h 4 (t := 47) 51 ((decide (40 < (a0.length : Int))) || (decide (40 < (a1.length : Int)))) rfl (fun hB3 => ?_) (fun hB3 => ?_) (fun a w h => ?_)
      · refine g_no h rfl rfl rfl rfl hB3 rfl (by decide) (fun a h => ?_)
        refine g_no h rfl rfl rfl rfl hB3 rfl (by decide) (fun a h => ?_)
        refine g_no h rfl rfl rfl rfl hB3 rfl (by decide) (fun a h => ?_)
        refine s_x h rfl rfl (by decide) (x_pick (u' := undef) h.k rfl rfl (fun _ => rfl) (fun hh => absurd (hB3.symm.trans hh) (by decide))) (fun a h => ?_)
        exact (h.mid 3 rfl).val (by first | rfl | (rw [hB3]; first | rfl | simp))
      · refine g_yes h rfl rfl rfl rfl hB3 ?_
        refine sMV h (fun a h => ?_)
        refine g_yes h rfl rfl rfl rfl hB3 ?_
        refine s_x h rfl rfl (by decide) (x_len h.k rfl Try.underlying23 rfl) (fun a h => ?_)
        refine g_yes h rfl rfl rfl rfl hB3 ?_
        refine s_x h rfl rfl (by decide) (x_bin h.k rfl rfl rfl ib_gtr) (fun a h => ?_)
        refine s_x h rfl rfl (by decide) (x_pick (u' := undef) h.k rfl rfl (fun hh => absurd (hB3.symm.trans hh) (by decide)) (fun _ => rfl)) (fun a h => ?_)
        exact (h.mid 3 rfl).val (by first | rfl | (rw [hB3]; first | rfl | simp))
      refine sMV h (fun a h => ?_)
      refine q_grp h 4 (t := 52) 56 (((decide (40 < (a0.length : Int))) || (decide (40 < (a1.length : Int)))) || (decide (40 < (a2.length : Int)))) rfl (fun hB8 => ?_) (fun hB8 => ?_) (fun a w h => ?_)
      · refine g_no h rfl rfl rfl rfl hB8 rfl (by decide) (fun a h => ?_)
        refine g_no h rfl rfl rfl rfl hB8 rfl (by decide) (fun a h => ?_)
        refine g_no h rfl rfl rfl rfl hB8 rfl (by decide) (fun a h => ?_)
        refine s_x h rfl rfl (by decide) (x_pick (u' := undef) h.k rfl rfl (fun _ => rfl) (fun hh => absurd (hB8.symm.trans hh) (by decide))) (fun a h => ?_)
        exact (h.mid 3 rfl).val (by first | rfl | (rw [hB8]; first | rfl | simp))
      · refine g_yes h rfl rfl rfl rfl hB8 ?_
        refine sMV h (fun a h => ?_)
        refine g_yes h rfl rfl rfl rfl hB8 ?_
        refine s_x h rfl rfl (by decide) (x_len h.k rfl Try.underlying23 rfl) (fun a h => ?_)
        refine g_yes h rfl rfl rfl rfl hB8 ?_
        refine s_x h rfl rfl (by decide) (x_bin h.k rfl rfl rfl ib_gtr) (fun a h => ?_)
        refine s_x h rfl rfl (by decide) (x_pick (u' := undef) h.k rfl rfl (fun hh => absurd (hB8.symm.trans hh) (by decide)) (fun _ => rfl)) (fun a h => ?_)
        exact (h.mid 3 rfl).val (by first | rfl | (rw [hB8]; first | rfl | simp))
      refine l_end ?_
      refine c_cond h rfl (fun hb => ?_) (fun hb => ?_)
      · rw [if_pos hb] at hf
        refine c_rs ?_
        refine sAV h (fun a h => ?_)
        refine l_end ?_
        refine wp_ret ?_
        refine e_thenR ?_
        rw [← Option.some.inj hf]
        exact r_ret1 h rfl (rv_tmp h rfl) ⟨_, [], _, rfl, ⟨rfl, rfl, trivial⟩, rfl, up8, h.m⟩
      · rw [if_neg (by rw [hb]; decide)] at hf
        refine wp_skip ?_
        refine e_thenN ?_
        refine c_rs ?_
        refine sMV h (fun a h => ?_)
        obtain ⟨x37, h38, hf⟩ := bsome hf
        have hX := chatelainelaw37_made_ok Fu (S0 := S7) Aa0 ca0 a0 (hsa0.mono le9) _ h38 _ (h.sub (Ls := []))
        refine q_callY (Ls := []) hX h up8 rfl rfl rfl (by decide) Try.func7 rfl rfl rfl (fun a w v L1 S40 hR le42 up41 h => ?_)
        obtain ⟨g43, A44, c45, cs46, g48, es49, cl50, g52, es53, cl54, A56, c57, cs58, rfl, rfl, hq47, hm51, hm55, hq59, _⟩ := hR
        refine sMV h (fun a h => ?_)
        refine s_x h rfl rfl (by decide) (x_ext h.k rfl rfl rfl) (fun a h => ?_)
        refine s_x h rfl rfl (by decide) (x_ext h.k rfl rfl rfl) (fun a h => ?_)
        refine sAV h (fun a h => ?_)
        refine sAV h (fun a h => ?_)
        refine l_end ?_
        refine c_rs ?_
        refine sMV h (fun a h => ?_)
        refine sMV h (fun a h => ?_)
        obtain ⟨x60, h61, hf⟩ := bsome hf
        have h := h.pick [0, 1, 2, 3, 5, 4] (by decide) rfl
        have hX := know_From_ok Fu (S0 := S40) x37.1 g43 A44 c45 cs46 g48 es49 cl50 g52 es53 cl54 hq47 hm51 hm55 Aa1 ca1 a1 (hsa1.mono (le9.trans le42)) _ h61 _ (h.sub (Ls := [.box g43 52 ([.slice A44 x37.1.1.length c45, .map (some g48), .map (some g52)]), .row (.slice A44 x37.1.1.length c45) 46 3 x37.1.1.length cs46, .obj g48 (.map es49 cl50), .obj g52 (.map es53 cl54)]))
        refine q_callY (Ls := [.box g43 52 ([.slice A44 x37.1.1.length c45, .map (some g48), .map (some g52)]), .row (.slice A44 x37.1.1.length c45) 46 3 x37.1.1.length cs46, .obj g48 (.map es49 cl50), .obj g52 (.map es53 cl54)]) hX h up41 rfl rfl rfl (by decide) Try.func6 rfl rfl rfl (fun a w v L1 S63 hR le65 up64 h => ?_)
        rcases hR with hR | hR
        · obtain ⟨x66, rfl, hR⟩ := hR
          dsimp only at hf
          obtain ⟨A68, c69, cs70, g72, es73, cl74, g76, es77, cl78, rfl, rfl, hr67, hq71, hm75, hm79, _⟩ := hR
          refine sMV h (fun a h => ?_)
          refine s_x h rfl rfl (by decide) (x_ext h.k rfl rfl rfl) (fun a h => ?_)
          refine s_x h rfl rfl (by decide) (x_ext h.k rfl rfl rfl) (fun a h => ?_)
          refine sAV h (fun a h => ?_)
          refine sAV h (fun a h => ?_)
          refine l_end ?_
          refine wp_seq ?_
          refine c_rs ?_
          refine sMV h (fun a h => ?_)
          refine s_x h rfl rfl (by decide) (x_bin h.k rfl rfl rfl ib_neq) (fun a h => ?_)
          refine l_end ?_
          refine c_cond h rfl (fun hb => ?_) (fun hb => ?_)
          · rw [if_pos (of_decide_eq_true hb)] at hf
            refine c_rs ?_
            refine sMV h (fun a h => ?_)
            refine s_x h rfl rfl (by decide) (x_eql_nn h.k rfl Try.underlying25 rfl rfl) (fun a h => ?_)
            refine sAV h (fun a h => ?_)
            refine l_end ?_
            refine wp_ret ?_
            refine e_thenR ?_
            rw [← Option.some.inj hf]
            exact r_ret1 h rfl (rv_tmp h rfl) ⟨_, [], _, rfl, ⟨rfl, rfl, trivial⟩, rfl, up64, (h.m.pick [4] _ (by decide) rfl)⟩
          · rw [if_neg (of_decide_eq_false hb)] at hf
            refine wp_skip ?_
            refine e_thenN ?_
            refine c_rs ?_
            refine sMV h (fun a h => ?_)
            refine sMV h (fun a h => ?_)
            obtain ⟨x80, h81, hf⟩ := bsome hf
            have h := h.pick [4, 0, 1, 2, 3, 5] (by decide) rfl
            have hX := know_Set_More_nil0_ok Fu (S0 := S63) Aa2 ca2 a2 (hsa2.mono ((le9.trans le42).trans le65)) _ h81 _ (h.sub (Ls := []))
            refine q_callY (Ls := []) hX h up64 rfl rfl rfl (by decide) Try.func14 rfl rfl rfl (fun a w v L1 S83 hR le85 up84 h => ?_)
            obtain ⟨rfl, rfl, hr86, _⟩ := hR
            refine sMV h (fun a h => ?_)
            refine s_x h rfl rfl (by decide) (x_ext h.k rfl rfl rfl) (fun a h => ?_)
            refine s_x h rfl rfl (by decide) (x_ext h.k rfl rfl rfl) (fun a h => ?_)
            refine sAV h (fun a h => ?_)
            refine sAV h (fun a h => ?_)
            refine l_end ?_
            refine c_rs ?_
            refine sMV h (fun a h => ?_)
            refine q_bslice0 h rfl rfl rfl (by decide) Try.underlying23 sz_int (fun a w A87 h => ?_)
            refine sMV h (fun a h => ?_)
            obtain ⟨x88, h89, hf⟩ := bsome hf
            obtain ⟨_, _, vs90, hrd91, hrp92⟩ := id (hsa1.mono (((le9.trans le42).trans le65).trans le85))
            refine q_append (T := tyI) (S := S83) h rfl rfl rfl (by decide) Try.underlying23 zb_int rfl (by decide) rfl 0 rfl (show reps tyI S83 [] [] from rfl) rfl hrp92 (hrd91 _ (h.m.snOK (i := 1) rfl)) h89 (fun a w A93 c94 cs95 hq96 h => ?_)
            refine sMV h (fun a h => ?_)
            obtain ⟨x97, h98, hf⟩ := bsome hf
            obtain ⟨_, _, vs99, hrd100, hrp101⟩ := id (hsa2.mono (((le9.trans le42).trans le65).trans le85))
            refine q_append (T := tyI) (S := S83) h rfl rfl rfl (by decide) Try.underlying23 zb_int rfl (by decide) rfl 0 rfl hq96 rfl hrp101 (hrd100 _ (h.m.snOK (i := 1) rfl)) h98 (fun a w A102 c103 cs104 hq105 h => ?_)
            obtain ⟨S106, le107, up108, hs109, h⟩ := q_freeze (T := tyI) h up84 hq105
            obtain ⟨x110, h111, hf⟩ := bsome hf
            have h := h.pick [1, 2, 3, 4, 0, 5] (by decide) rfl
            have hX := know_From_ok Fu (S0 := S106) x66.2 g43 A68 c69 cs70 g72 es73 cl74 g76 es77 cl78 (hq71.mono (le85.trans le107)) (hm75.mono (le85.trans le107)) (hm79.mono (le85.trans le107)) A102 c103 x97 hs109 _ h111 _ (h.sub (Ls := [.box g43 52 ([.slice A68 x66.2.1.length c69, .map (some g72), .map (some g76)]), .row (.slice A68 x66.2.1.length c69) 46 3 x66.2.1.length cs70, .obj g72 (.map es73 cl74), .obj g76 (.map es77 cl78)]))
            refine q_callY (Ls := [.box g43 52 ([.slice A68 x66.2.1.length c69, .map (some g72), .map (some g76)]), .row (.slice A68 x66.2.1.length c69) 46 3 x66.2.1.length cs70, .obj g72 (.map es73 cl74), .obj g76 (.map es77 cl78)]) hX h up108 rfl rfl rfl (by decide) Try.func6 rfl rfl rfl (fun a w v L1 S113 hR le115 up114 h => ?_)
            rcases hR with hR | hR
            · obtain ⟨x116, rfl, hR⟩ := hR
              dsimp only at hf
              obtain ⟨A118, c119, cs120, g122, es123, cl124, g126, es127, cl128, rfl, rfl, hr117, hq121, hm125, hm129, _⟩ := hR
              refine sMV h (fun a h => ?_)
              refine s_x h rfl rfl (by decide) (x_ext h.k rfl rfl rfl) (fun a h => ?_)
              refine s_x h rfl rfl (by decide) (x_ext h.k rfl rfl rfl) (fun a h => ?_)
              refine sAV h (fun a h => ?_)
              refine sAV h (fun a h => ?_)
              refine l_end ?_
              refine wp_seq ?_
              refine c_rs ?_
              refine sMV h (fun a h => ?_)
              refine sMV h (fun a h => ?_)
              refine s_x h rfl rfl (by decide) (x_bin h.k rfl rfl rfl ib_neq) (fun a h => ?_)
              refine l_end ?_
              refine c_cond h rfl (fun hb => ?_) (fun hb => ?_)
              · rw [if_pos (of_decide_eq_true hb)] at hf
                refine c_rs ?_
                refine sAV h (fun a h => ?_)
                refine l_end ?_
                refine wp_ret ?_
                refine e_thenR ?_
                rw [← Option.some.inj hf]
                exact r_ret1 h rfl (rv_tmp h rfl) ⟨_, [], _, rfl, ⟨rfl, rfl, trivial⟩, rfl, up114, (h.m.pick [4] _ (by decide) rfl)⟩
              · rw [if_neg (of_decide_eq_false hb)] at hf
                refine wp_skip ?_
                refine e_thenN ?_
                refine wp_seq ?_
                refine c_rs ?_
                refine sMV h (fun a h => ?_)
                refine s_x h rfl rfl (by decide) (x_bin h.k rfl rfl rfl ib_neq) (fun a h => ?_)
                refine l_end ?_
                refine c_cond h rfl (fun hb => ?_) (fun hb => ?_)
                · rw [if_pos (of_decide_eq_true hb)] at hf
                  refine c_rs ?_
                  refine sMV h (fun a h => ?_)
                  refine s_x h rfl rfl (by decide) (x_eql_nn h.k rfl Try.underlying25 rfl rfl) (fun a h => ?_)
                  refine sMV h (fun a h => ?_)
                  refine q_grp h 3 (t := 95) 98 true rfl (fun hB2 => ?_) (fun hB2 => ?_) (fun a w h => ?_)
                  · refine g_yes h rfl rfl rfl rfl hB2 ?_
                    refine sMV h (fun a h => ?_)
                    refine g_yes h rfl rfl rfl rfl hB2 ?_
                    refine s_x h rfl rfl (by decide) (x_eql_nn h.k rfl Try.underlying25 rfl rfl) (fun a h => ?_)
                    refine s_x h rfl rfl (by decide) (x_pick (u' := undef) h.k rfl rfl (fun _ => rfl) (fun hh => absurd (hB2.symm.trans hh) (by decide))) (fun a h => ?_)
                    exact (h.mid 2 rfl).val (by first | rfl | (rw [hB2]; first | rfl | simp))
                  · exact absurd hB2 (by decide)
                  refine sAV h (fun a h => ?_)
                  refine l_end ?_
                  refine wp_ret ?_
                  refine e_thenR ?_
                  rw [← Option.some.inj hf]
                  exact r_ret1 h rfl (rv_tmp h rfl) ⟨_, [], _, rfl, ⟨rfl, rfl, trivial⟩, rfl, up114, (h.m.pick [4] _ (by decide) rfl)⟩
                · rw [if_neg (of_decide_eq_false hb)] at hf
                  refine wp_skip ?_
                  refine e_thenN ?_
                  refine c_rs ?_
                  refine sMV h (fun a h => ?_)
                  refine sMV h (fun a h => ?_)
                  obtain ⟨x132, h133, hf⟩ := bsome hf
                  have hX := know_Set_List_nil0_ok Fu (S0 := snapAll _)  _ h133 _ h.startAll
                  refine q_callX hX h rfl rfl rfl (by decide) Try.func12 rfl rfl rfl (fun a w v L1 S1 hR hb1 h => ?_)
                  obtain ⟨A135, c136, cs137, rfl, rfl, hq138, _⟩ := hR
                  have hq139 := hq138.fl (S' := S113) fl_I
                  have h := h.pick [0, 5, 1, 2, 3, 4, 6] (by decide) rfl
                  obtain ⟨S140, le141, up142, hs143, h⟩ := q_freeze (T := tyI) h up114 hq139
                  obtain ⟨x144, h145, hf⟩ := bsome hf
                  have h := h.pick [1, 2, 3, 4, 0, 5] (by decide) rfl
                  have hX := know_From_ok Fu (S0 := S140) x116.2 g43 A118 c119 cs120 g122 es123 cl124 g126 es127 cl128 (hq121.mono le141) (hm125.mono le141) (hm129.mono le141) A135 c136 x132 hs143 _ h145 _ (h.sub (Ls := [.box g43 52 ([.slice A118 x116.2.1.length c119, .map (some g122), .map (some g126)]), .row (.slice A118 x116.2.1.length c119) 46 3 x116.2.1.length cs120, .obj g122 (.map es123 cl124), .obj g126 (.map es127 cl128)]))
                  refine q_callY (Ls := [.box g43 52 ([.slice A118 x116.2.1.length c119, .map (some g122), .map (some g126)]), .row (.slice A118 x116.2.1.length c119) 46 3 x116.2.1.length cs120, .obj g122 (.map es123 cl124), .obj g126 (.map es127 cl128)]) hX h up142 rfl rfl rfl (by decide) Try.func6 rfl rfl rfl (fun a w v L1 S147 hR le149 up148 h => ?_)
                  rcases hR with hR | hR
                  · obtain ⟨x150, rfl, hR⟩ := hR
                    dsimp only at hf
                    obtain ⟨A152, c153, cs154, g156, es157, cl158, g160, es161, cl162, rfl, rfl, hr151, hq155, hm159, hm163, _⟩ := hR
                    refine sMV h (fun a h => ?_)
                    refine s_x h rfl rfl (by decide) (x_ext h.k rfl rfl rfl) (fun a h => ?_)
                    refine s_x h rfl rfl (by decide) (x_ext h.k rfl rfl rfl) (fun a h => ?_)
                    refine sAV h (fun a h => ?_)
                    refine sAV h (fun a h => ?_)
                    refine l_end ?_
                    refine wp_seq ?_
                    refine c_rs ?_
                    refine sMV h (fun a h => ?_)
                    refine s_x h rfl rfl (by decide) (x_bin h.k rfl rfl rfl ib_neq) (fun a h => ?_)
                    refine sMV h (fun a h => ?_)
                    obtain ⟨z165, hz164, hf⟩ := bsome hf
                    refine q_grp h 7 (t := 108) 115 z165 rfl (fun hB2 => ?_) (fun hB2 => ?_) (fun a w h => ?_)
                    · refine g_no h rfl rfl rfl rfl hB2 rfl (by decide) (fun a h => ?_)
                      refine g_no h rfl rfl rfl rfl hB2 rfl (by decide) (fun a h => ?_)
                      refine g_no h rfl rfl rfl rfl hB2 rfl (by decide) (fun a h => ?_)
                      refine g_no h rfl rfl rfl rfl hB2 rfl (by decide) (fun a h => ?_)
                      refine g_no h rfl rfl rfl rfl hB2 rfl (by decide) (fun a h => ?_)
                      refine g_no h rfl rfl rfl rfl hB2 rfl (by decide) (fun a h => ?_)
                      rw [if_pos (of_decide_eq_true hB2)] at hz164
                      refine s_x h rfl rfl (by decide) (x_pick (u' := undef) h.k rfl rfl (fun _ => rfl) (fun hh => absurd (hB2.symm.trans hh) (by decide))) (fun a h => ?_)
                      exact (h.mid 6 rfl).val (by rw [Option.some.inj hz164])
                    · rw [if_neg (of_decide_eq_false hB2)] at hz164
                      refine g_yes h rfl rfl rfl rfl hB2 ?_
                      refine sMV h (fun a h => ?_)
                      refine g_yes h rfl rfl rfl rfl hB2 ?_
                      obtain ⟨x167, h168, hz164⟩ := bsome hz164
                      have hX := know_Set_List_nil0_ok Fu (S0 := snapAll _)  _ h168 _ h.startAll
                      refine q_callX hX h rfl rfl rfl (by decide) Try.func12 rfl rfl rfl (fun a w v L1 S1 hR hb1 h => ?_)
                      obtain ⟨A170, c171, cs172, rfl, rfl, hq173, _⟩ := hR
                      have hq174 := hq173.fl (S' := S147) fl_I
                      refine g_yes h rfl rfl rfl rfl hB2 ?_
                      refine sMV h (fun a h => ?_)
                      refine g_yes h rfl rfl rfl rfl hB2 ?_
                      obtain ⟨x175, h176, hz164⟩ := bsome hz164
                      have hX := know_Set_List_nil0_ok Fu (S0 := snapAll _)  _ h176 _ h.startAll
                      refine q_callX hX h rfl rfl rfl (by decide) Try.func12 rfl rfl rfl (fun a w v L1 S1 hR hb1 h => ?_)
                      obtain ⟨A178, c179, cs180, rfl, rfl, hq181, _⟩ := hR
                      have hq182 := hq181.fl (S' := S147) fl_I
                      refine g_yes h rfl rfl rfl rfl hB2 ?_
                      obtain ⟨x183, h184, hz164⟩ := bsome hz164
                      have hX := chatelaineref01_Ints_ok Fu (S0 := snapAll _) A170 c171 x167 (h.m.rowAll (i := 1) rfl (j := 6) rfl hq174) A178 c179 x175 (h.m.rowAll (i := 0) rfl (j := 6) rfl hq182) _ h184 _ h.startAll
                      refine q_callX hX h rfl rfl rfl (by decide) Try.func11 rfl rfl rfl (fun a w v L1 S1 hR hb1 h => ?_)
                      obtain ⟨rfl, rfl, _⟩ := hR
                      refine g_yes h rfl rfl rfl rfl hB2 ?_
                      refine s_x h rfl rfl (by decide) (x_not h.k rfl rfl) (fun a h => ?_)
                      refine s_x h rfl rfl (by decide) (x_pick (u' := undef) h.k rfl rfl (fun hh => absurd (hB2.symm.trans hh) (by decide)) (fun _ => rfl)) (fun a h => ?_)
                      have h := h.pick [2, 3, 4, 5, 6, 7] (by decide) rfl
                      exact (h.mid 6 rfl).val (by rw [Option.some.inj hz164])
                    refine sMV h (fun a h => ?_)
                    obtain ⟨z187, hz186, hf⟩ := bsome hf
                    refine q_grp h 7 (t := 116) 123 z187 rfl (fun hB10 => ?_) (fun hB10 => ?_) (fun a w h => ?_)
                    · refine g_no h rfl rfl rfl rfl hB10 rfl (by decide) (fun a h => ?_)
                      refine g_no h rfl rfl rfl rfl hB10 rfl (by decide) (fun a h => ?_)
                      refine g_no h rfl rfl rfl rfl hB10 rfl (by decide) (fun a h => ?_)
                      refine g_no h rfl rfl rfl rfl hB10 rfl (by decide) (fun a h => ?_)
                      refine g_no h rfl rfl rfl rfl hB10 rfl (by decide) (fun a h => ?_)
                      refine g_no h rfl rfl rfl rfl hB10 rfl (by decide) (fun a h => ?_)
                      rw [if_pos hB10] at hz186
                      refine s_x h rfl rfl (by decide) (x_pick (u' := undef) h.k rfl rfl (fun _ => rfl) (fun hh => absurd (hB10.symm.trans hh) (by decide))) (fun a h => ?_)
                      exact (h.mid 6 rfl).val (by rw [Option.some.inj hz186])
                    · rw [if_neg (by rw [hB10]; decide)] at hz186
                      refine g_yes h rfl rfl rfl rfl hB10 ?_
                      refine sMV h (fun a h => ?_)
                      refine g_yes h rfl rfl rfl rfl hB10 ?_
                      obtain ⟨x189, h190, hz186⟩ := bsome hz186
                      have hX := know_Set_List_nil0_ok Fu (S0 := snapAll _)  _ h190 _ h.startAll
                      refine q_callX hX h rfl rfl rfl (by decide) Try.func12 rfl rfl rfl (fun a w v L1 S1 hR hb1 h => ?_)
                      obtain ⟨A192, c193, cs194, rfl, rfl, hq195, _⟩ := hR
                      have hq196 := hq195.fl (S' := S147) fl_I
                      refine g_yes h rfl rfl rfl rfl hB10 ?_
                      refine sMV h (fun a h => ?_)
                      refine g_yes h rfl rfl rfl rfl hB10 ?_
                      obtain ⟨x197, h198, hz186⟩ := bsome hz186
                      have hX := know_Set_List_nil0_ok Fu (S0 := snapAll _)  _ h198 _ h.startAll
                      refine q_callX hX h rfl rfl rfl (by decide) Try.func12 rfl rfl rfl (fun a w v L1 S1 hR hb1 h => ?_)
                      obtain ⟨A200, c201, cs202, rfl, rfl, hq203, _⟩ := hR
                      have hq204 := hq203.fl (S' := S147) fl_I
                      refine g_yes h rfl rfl rfl rfl hB10 ?_
                      obtain ⟨x205, h206, hz186⟩ := bsome hz186
                      have hX := chatelaineref01_Ints_ok Fu (S0 := snapAll _) A192 c193 x189 (h.m.rowAll (i := 1) rfl (j := 6) rfl hq196) A200 c201 x197 (h.m.rowAll (i := 0) rfl (j := 6) rfl hq204) _ h206 _ h.startAll
                      refine q_callX hX h rfl rfl rfl (by decide) Try.func11 rfl rfl rfl (fun a w v L1 S1 hR hb1 h => ?_)
                      obtain ⟨rfl, rfl, _⟩ := hR
                      refine g_yes h rfl rfl rfl rfl hB10 ?_
                      refine s_x h rfl rfl (by decide) (x_not h.k rfl rfl) (fun a h => ?_)
                      refine s_x h rfl rfl (by decide) (x_pick (u' := undef) h.k rfl rfl (fun hh => absurd (hB10.symm.trans hh) (by decide)) (fun _ => rfl)) (fun a h => ?_)
                      have h := h.pick [2, 3, 4, 5, 6, 7] (by decide) rfl
                      exact (h.mid 6 rfl).val (by rw [Option.some.inj hz186])
                    refine l_end ?_
                    refine c_cond h rfl (fun hb => ?_) (fun hb => ?_)
                    · rw [if_pos hb] at hf
                      refine c_rs ?_
                      refine sAV h (fun a h => ?_)
                      refine l_end ?_
                      refine wp_ret ?_
                      refine e_thenR ?_
                      rw [← Option.some.inj hf]
                      exact r_ret1 h rfl (rv_tmp h rfl) ⟨_, [], _, rfl, ⟨rfl, rfl, trivial⟩, rfl, up148, (h.m.pick [4] _ (by decide) rfl)⟩
                    · rw [if_neg (by rw [hb]; decide)] at hf
                      refine wp_skip ?_
                      refine e_thenN ?_
                      refine wp_seq ?_
                      refine c_rs ?_
                      refine sMV h (fun a h => ?_)
                      obtain ⟨x208, h209, hf⟩ := bsome hf
                      have hX := know_Set_List_nil0_ok Fu (S0 := snapAll _)  _ h209 _ h.startAll
                      refine q_callX hX h rfl rfl rfl (by decide) Try.func12 rfl rfl rfl (fun a w v L1 S1 hR hb1 h => ?_)
                      obtain ⟨A211, c212, cs213, rfl, rfl, hq214, _⟩ := hR
                      have hq215 := hq214.fl (S' := S147) fl_I
                      have hr216 : r64 (x208.length : Int) := len_r (h.m.rowLen (i := 0) rfl)
                      refine s_x h rfl rfl (by decide) (x_len h.k rfl Try.underlying23 rfl) (fun a h => ?_)
                      refine sMV h (fun a h => ?_)
                      refine l_end ?_
                      obtain ⟨o217, hl218, hf⟩ := bsome hf
                      refine c_fin (fun a w => (.inr ()) = o217 ∧ St 136 w0 (ownL ([] ++ [.sn S0])) [] [.sn S147] a w) ?_ ?_
                      · refine wp_block ?_
                        have h := h.pick [0, 5] (by decide) rfl
                        refine c_loop (fun m222 a w => ∃ (x219 : Int), chatelainelaw37_KnowMore_l0 Fu x208 m222 x219 = some o217 ∧ r64 x219 ∧ St 136 w0 (ownL ([] ++ [.sn S0])) [(14, .pointer none), (125, .slice A211 x208.length c212), (126, .int .i64 (x208.length : Int)), (127, .int .i64 x219)] [.row (.slice A211 x208.length c212) 3 1 x208.length cs213, .sn S147] a w) Fu ⟨0, hl218, (show r64 0 from ⟨by decide, by decide⟩), h.has (by exact ⟨rfl, rfl, rfl, rfl, trivial⟩)⟩ (fun m222 a w hI => ?_)
                        obtain ⟨x219, hl221, hr220, h⟩ := hI
                        obtain _ | m222 := m222
                        · rw [chatelainelaw37_KnowMore_l0] at hl221; cases hl221
                        rw [chatelainelaw37_KnowMore_l0] at hl221
                        refine c_rs ?_
                        refine s_x h rfl rfl (by decide) (x_bin h.k rfl rfl rfl ib_lss) (fun a h => ?_)
                        refine l_end ?_
                        refine c_cs h rfl (fun hb => ?_) (fun hb => ?_)
                        · rw [if_pos (of_decide_eq_true hb)] at hl221
                          refine wp_skip ?_
                          refine e_thenN ?_
                          refine wp_seq ?_
                          refine wp_block ?_
                          refine c_rs ?_
                          obtain ⟨m223, h224, hl221⟩ := bsome hl221
                          obtain ⟨hi225, hm226⟩ := ix_some h224
                          obtain ⟨g228, hA227⟩ := h.m.rowHead (i := 0) rfl (Nat.lt_of_le_of_lt (Nat.zero_le _) hm226)
                          refine s_x h rfl rfl (by decide) (x_iaddrE h.k rfl Try.underlying23 sz_int hA227 rfl rfl hi225 hm226) (fun a h => ?_)
                          obtain ⟨x229, h230, hl221⟩ := bsome hl221
                          obtain ⟨u231, hv232, hu233⟩ := (hq215).cell rfl h230
                          obtain ⟨e235, hr234⟩ := hu233
                          cases e235
                          refine s_x h rfl rfl (by decide) (x_ld h.k rfl Try.underlying3 rfl rfl (h.m.cellRowE (i := 0) rfl hA227 _ (by rw [Nat.mul_one]; exact hv232))) (fun a h => ?_)
                          refine sAV h (fun a h => ?_)
                          refine l_end ?_
                          refine c_rs ?_
                          refine sMV h (fun a h => ?_)
                          refine sMV h (fun a h => ?_)
                          obtain ⟨x236, h237, hl221⟩ := bsome hl221
                          have hX := know_Set_Has_nil0_ok Fu (S0 := snapAll _) x229 hr234 _ h237 _ h.startAll
                          refine q_callX hX h rfl rfl rfl (by decide) Try.func10 rfl rfl rfl (fun a w v L1 S1 hR hb1 h => ?_)
                          obtain ⟨rfl, rfl, _⟩ := hR
                          refine s_x h rfl rfl (by decide) (x_not h.k rfl rfl) (fun a h => ?_)
                          refine l_end ?_
                          refine c_cond h rfl (fun hb => ?_) (fun hb => ?_)
                          · rw [if_pos hb] at hl221
                            refine c_rs ?_
                            refine sAV h (fun a h => ?_)
                            refine l_end ?_
                            refine wp_ret ?_
                            refine e_blkR ?_
                            refine e_thenR ?_
                            refine e_thenR ?_
                            refine e_blkR ?_
                            refine e_thenR ?_
                            cases hl221
                            try dsimp only at hf
                            refine e_thenR ?_
                            rw [← Option.some.inj hf]
                            exact r_ret1 h rfl (rv_tmp h rfl) ⟨_, [], _, rfl, ⟨rfl, rfl, trivial⟩, rfl, up148, (h.m.pick [1] _ (by decide) rfl)⟩
                          · rw [if_neg (by rw [hb]; decide)] at hl221
                            refine wp_skip ?_
                            refine e_blkN ?_
                            refine e_thenN ?_
                            refine c_r ?_
                            refine s_x h rfl rfl (by decide) (x_bin h.k rfl rfl rfl (ib_add rfl)) (fun a h => ?_)
                            refine sMV h (fun a h => ?_)
                            refine l_nil ?_
                            exact e_thenN ⟨m222, Nat.lt_succ_self _, w64 (x219 + 1), hl221, (w64_r _), h.has (by exact ⟨rfl, rfl, rfl, rfl, trivial⟩)⟩
                        · rw [if_neg (of_decide_eq_false hb)] at hl221
                          refine wp_exit ?_
                          refine e_thenX ?_
                          refine e_thenX ?_
                          refine e_blkX ?_
                          refine e_thenN ?_
                          have h := h.pick [1] (by decide) rfl
                          exact ⟨(Option.some.inj hl221), h.has trivial⟩
                      · rintro a w ⟨rfl, h⟩
                        try dsimp only at hf
                        refine e_thenN ?_
                        refine c_rs ?_
                        refine sAV h (fun a h => ?_)
                        refine l_end ?_
                        refine wp_ret ?_
                        rw [← Option.some.inj hf]
                        exact r_ret1 h rfl (rv_tmp h rfl) ⟨_, [], _, rfl, ⟨rfl, rfl, trivial⟩, rfl, up148, h.m⟩
                  · obtain ⟨x240, rfl, hR⟩ := hR
                    dsimp only at hf
                    obtain ⟨g241, A242, c243, A245, c246, cs247, A249, c250, cs251, A254, c255, cs256, g258, es259, cl260, g262, es263, cl264, rfl, rfl, hs244, hq248, hq252, hr253, hq257, hm261, hm265, _⟩ := hR
                    refine sMV h (fun a h => ?_)
                    refine s_x h rfl rfl (by decide) (x_ext h.k rfl rfl rfl) (fun a h => ?_)
                    refine s_x h rfl rfl (by decide) (x_ext h.k rfl rfl rfl) (fun a h => ?_)
                    refine sAV h (fun a h => ?_)
                    refine sAV h (fun a h => ?_)
                    refine l_end ?_
                    refine wp_seq ?_
                    refine c_rs ?_
                    refine sMV h (fun a h => ?_)
                    refine s_x h rfl rfl (by decide) (x_bin h.k rfl rfl rfl ib_neq) (fun a h => ?_)
                    refine sMV h (fun a h => ?_)
                    obtain ⟨z267, hz266, hf⟩ := bsome hf
                    refine q_grp h 7 (t := 108) 115 z267 rfl (fun hB2 => ?_) (fun hB2 => ?_) (fun a w h => ?_)
                    · refine g_no h rfl rfl rfl rfl hB2 rfl (by decide) (fun a h => ?_)
                      refine g_no h rfl rfl rfl rfl hB2 rfl (by decide) (fun a h => ?_)
                      refine g_no h rfl rfl rfl rfl hB2 rfl (by decide) (fun a h => ?_)
                      refine g_no h rfl rfl rfl rfl hB2 rfl (by decide) (fun a h => ?_)
                      refine g_no h rfl rfl rfl rfl hB2 rfl (by decide) (fun a h => ?_)
                      refine g_no h rfl rfl rfl rfl hB2 rfl (by decide) (fun a h => ?_)
                      rw [if_pos (of_decide_eq_true hB2)] at hz266
                      refine s_x h rfl rfl (by decide) (x_pick (u' := undef) h.k rfl rfl (fun _ => rfl) (fun hh => absurd (hB2.symm.trans hh) (by decide))) (fun a h => ?_)
                      exact (h.mid 6 rfl).val (by rw [Option.some.inj hz266])
                    · rw [if_neg (of_decide_eq_false hB2)] at hz266
                      refine g_yes h rfl rfl rfl rfl hB2 ?_
                      refine sMV h (fun a h => ?_)
                      refine g_yes h rfl rfl rfl rfl hB2 ?_
                      obtain ⟨x269, h270, hz266⟩ := bsome hz266
                      have hX := know_Set_List_nil0_ok Fu (S0 := snapAll _)  _ h270 _ h.startAll
                      refine q_callX hX h rfl rfl rfl (by decide) Try.func12 rfl rfl rfl (fun a w v L1 S1 hR hb1 h => ?_)
                      obtain ⟨A272, c273, cs274, rfl, rfl, hq275, _⟩ := hR
                      have hq276 := hq275.fl (S' := S147) fl_I
                      refine g_yes h rfl rfl rfl rfl hB2 ?_
                      refine sMV h (fun a h => ?_)
                      refine g_yes h rfl rfl rfl rfl hB2 ?_
                      obtain ⟨x277, h278, hz266⟩ := bsome hz266
                      have hX := know_Set_List_nil0_ok Fu (S0 := snapAll _)  _ h278 _ h.startAll
                      refine q_callX hX h rfl rfl rfl (by decide) Try.func12 rfl rfl rfl (fun a w v L1 S1 hR hb1 h => ?_)
                      obtain ⟨A280, c281, cs282, rfl, rfl, hq283, _⟩ := hR
                      have hq284 := hq283.fl (S' := S147) fl_I
                      refine g_yes h rfl rfl rfl rfl hB2 ?_
                      obtain ⟨x285, h286, hz266⟩ := bsome hz266
                      have hX := chatelaineref01_Ints_ok Fu (S0 := snapAll _) A272 c273 x269 (h.m.rowAll (i := 1) rfl (j := 9) rfl hq276) A280 c281 x277 (h.m.rowAll (i := 0) rfl (j := 9) rfl hq284) _ h286 _ h.startAll
                      refine q_callX hX h rfl rfl rfl (by decide) Try.func11 rfl rfl rfl (fun a w v L1 S1 hR hb1 h => ?_)
                      obtain ⟨rfl, rfl, _⟩ := hR
                      refine g_yes h rfl rfl rfl rfl hB2 ?_
                      refine s_x h rfl rfl (by decide) (x_not h.k rfl rfl) (fun a h => ?_)
                      refine s_x h rfl rfl (by decide) (x_pick (u' := undef) h.k rfl rfl (fun hh => absurd (hB2.symm.trans hh) (by decide)) (fun _ => rfl)) (fun a h => ?_)
                      have h := h.pick [2, 3, 4, 5, 6, 7, 8, 9, 10] (by decide) rfl
                      exact (h.mid 6 rfl).val (by rw [Option.some.inj hz266])
                    refine sMV h (fun a h => ?_)
                    obtain ⟨z289, hz288, hf⟩ := bsome hf
                    refine q_grp h 7 (t := 116) 123 z289 rfl (fun hB10 => ?_) (fun hB10 => ?_) (fun a w h => ?_)
                    · refine g_no h rfl rfl rfl rfl hB10 rfl (by decide) (fun a h => ?_)
                      refine g_no h rfl rfl rfl rfl hB10 rfl (by decide) (fun a h => ?_)
                      refine g_no h rfl rfl rfl rfl hB10 rfl (by decide) (fun a h => ?_)
                      refine g_no h rfl rfl rfl rfl hB10 rfl (by decide) (fun a h => ?_)
                      refine g_no h rfl rfl rfl rfl hB10 rfl (by decide) (fun a h => ?_)
                      refine g_no h rfl rfl rfl rfl hB10 rfl (by decide) (fun a h => ?_)
                      rw [if_pos hB10] at hz288
                      refine s_x h rfl rfl (by decide) (x_pick (u' := undef) h.k rfl rfl (fun _ => rfl) (fun hh => absurd (hB10.symm.trans hh) (by decide))) (fun a h => ?_)
                      exact (h.mid 6 rfl).val (by rw [Option.some.inj hz288])
                    · rw [if_neg (by rw [hB10]; decide)] at hz288
                      refine g_yes h rfl rfl rfl rfl hB10 ?_
                      refine sMV h (fun a h => ?_)
                      refine g_yes h rfl rfl rfl rfl hB10 ?_
                      obtain ⟨x291, h292, hz288⟩ := bsome hz288
                      have hX := know_Set_List_ok Fu (S0 := snapAll _) g241 x240.1 ⟨[.slice A242 x240.1.1.length c243, .slice A245 x240.1.2.1.length c246, .slice A249 x240.1.2.2.1.length c250, .bool x240.1.2.2.2], h.m.boxAll (i := 0) rfl, ⟨[.slice A242 x240.1.1.length c243], [.slice A245 x240.1.2.1.length c246, .slice A249 x240.1.2.2.1.length c250, .bool x240.1.2.2.2], rfl, ⟨_, _, rfl, (hs244).mono (h.m.leAll (i := 7) rfl)⟩, ⟨[.slice A245 x240.1.2.1.length c246], [.slice A249 x240.1.2.2.1.length c250, .bool x240.1.2.2.2], rfl, ⟨_, _, rfl, h.m.rowAll (i := 1) rfl (j := 7) rfl hq248⟩, ⟨[.slice A249 x240.1.2.2.1.length c250], [.bool x240.1.2.2.2], rfl, ⟨_, _, rfl, h.m.rowAll (i := 2) rfl (j := 7) rfl hq252⟩, rfl⟩⟩⟩⟩ _ h292 _ h.startAll
                      refine q_callX hX h rfl rfl rfl (by decide) Try.func12 rfl rfl rfl (fun a w v L1 S1 hR hb1 h => ?_)
                      obtain ⟨A294, c295, cs296, rfl, rfl, hq297, _⟩ := hR
                      have hq298 := hq297.fl (S' := S147) fl_I
                      refine g_yes h rfl rfl rfl rfl hB10 ?_
                      refine sMV h (fun a h => ?_)
                      refine g_yes h rfl rfl rfl rfl hB10 ?_
                      obtain ⟨x299, h300, hz288⟩ := bsome hz288
                      have hX := know_Set_List_nil0_ok Fu (S0 := snapAll _)  _ h300 _ h.startAll
                      refine q_callX hX h rfl rfl rfl (by decide) Try.func12 rfl rfl rfl (fun a w v L1 S1 hR hb1 h => ?_)
                      obtain ⟨A302, c303, cs304, rfl, rfl, hq305, _⟩ := hR
                      have hq306 := hq305.fl (S' := S147) fl_I
                      refine g_yes h rfl rfl rfl rfl hB10 ?_
                      obtain ⟨x307, h308, hz288⟩ := bsome hz288
                      have hX := chatelaineref01_Ints_ok Fu (S0 := snapAll _) A294 c295 x291 (h.m.rowAll (i := 1) rfl (j := 9) rfl hq298) A302 c303 x299 (h.m.rowAll (i := 0) rfl (j := 9) rfl hq306) _ h308 _ h.startAll
                      refine q_callX hX h rfl rfl rfl (by decide) Try.func11 rfl rfl rfl (fun a w v L1 S1 hR hb1 h => ?_)
                      obtain ⟨rfl, rfl, _⟩ := hR
                      refine g_yes h rfl rfl rfl rfl hB10 ?_
                      refine s_x h rfl rfl (by decide) (x_not h.k rfl rfl) (fun a h => ?_)
                      refine s_x h rfl rfl (by decide) (x_pick (u' := undef) h.k rfl rfl (fun hh => absurd (hB10.symm.trans hh) (by decide)) (fun _ => rfl)) (fun a h => ?_)
                      have h := h.pick [2, 3, 4, 5, 6, 7, 8, 9, 10] (by decide) rfl
                      exact (h.mid 6 rfl).val (by rw [Option.some.inj hz288])
                    refine l_end ?_
                    refine c_cond h rfl (fun hb => ?_) (fun hb => ?_)
                    · rw [if_pos hb] at hf
                      refine c_rs ?_
                      refine sAV h (fun a h => ?_)
                      refine l_end ?_
                      refine wp_ret ?_
                      refine e_thenR ?_
                      rw [← Option.some.inj hf]
                      exact r_ret1 h rfl (rv_tmp h rfl) ⟨_, [], _, rfl, ⟨rfl, rfl, trivial⟩, rfl, up148, (h.m.pick [7] _ (by decide) rfl)⟩
                    · rw [if_neg (by rw [hb]; decide)] at hf
                      refine wp_skip ?_
                      refine e_thenN ?_
                      refine wp_seq ?_
                      refine c_rs ?_
                      refine sMV h (fun a h => ?_)
                      obtain ⟨x310, h311, hf⟩ := bsome hf
                      have hX := know_Set_List_nil0_ok Fu (S0 := snapAll _)  _ h311 _ h.startAll
                      refine q_callX hX h rfl rfl rfl (by decide) Try.func12 rfl rfl rfl (fun a w v L1 S1 hR hb1 h => ?_)
                      obtain ⟨A313, c314, cs315, rfl, rfl, hq316, _⟩ := hR
                      have hq317 := hq316.fl (S' := S147) fl_I
                      have hr318 : r64 (x310.length : Int) := len_r (h.m.rowLen (i := 0) rfl)
                      refine s_x h rfl rfl (by decide) (x_len h.k rfl Try.underlying23 rfl) (fun a h => ?_)
                      refine sMV h (fun a h => ?_)
                      refine l_end ?_
                      obtain ⟨o319, hl320, hf⟩ := bsome hf
                      refine c_fin (fun a w => (.inr ()) = o319 ∧ St 136 w0 (ownL ([] ++ [.sn S0])) [] [.sn S147] a w) ?_ ?_
                      · refine wp_block ?_
                        have h := h.pick [0, 8] (by decide) rfl
                        refine c_loop (fun m324 a w => ∃ (x321 : Int), chatelainelaw37_KnowMore_l1 Fu x310 m324 x321 = some o319 ∧ r64 x321 ∧ St 136 w0 (ownL ([] ++ [.sn S0])) [(14, .pointer none), (125, .slice A313 x310.length c314), (126, .int .i64 (x310.length : Int)), (127, .int .i64 x321)] [.row (.slice A313 x310.length c314) 3 1 x310.length cs315, .sn S147] a w) Fu ⟨0, hl320, (show r64 0 from ⟨by decide, by decide⟩), h.has (by exact ⟨rfl, rfl, rfl, rfl, trivial⟩)⟩ (fun m324 a w hI => ?_)
                        obtain ⟨x321, hl323, hr322, h⟩ := hI
                        obtain _ | m324 := m324
                        · rw [chatelainelaw37_KnowMore_l1] at hl323; cases hl323
                        rw [chatelainelaw37_KnowMore_l1] at hl323
                        refine c_rs ?_
                        refine s_x h rfl rfl (by decide) (x_bin h.k rfl rfl rfl ib_lss) (fun a h => ?_)
                        refine l_end ?_
                        refine c_cs h rfl (fun hb => ?_) (fun hb => ?_)
                        · rw [if_pos (of_decide_eq_true hb)] at hl323
                          refine wp_skip ?_
                          refine e_thenN ?_
                          refine wp_seq ?_
                          refine wp_block ?_
                          refine c_rs ?_
                          obtain ⟨m325, h326, hl323⟩ := bsome hl323
                          obtain ⟨hi327, hm328⟩ := ix_some h326
                          obtain ⟨g330, hA329⟩ := h.m.rowHead (i := 0) rfl (Nat.lt_of_le_of_lt (Nat.zero_le _) hm328)
                          refine s_x h rfl rfl (by decide) (x_iaddrE h.k rfl Try.underlying23 sz_int hA329 rfl rfl hi327 hm328) (fun a h => ?_)
                          obtain ⟨x331, h332, hl323⟩ := bsome hl323
                          obtain ⟨u333, hv334, hu335⟩ := (hq317).cell rfl h332
                          obtain ⟨e337, hr336⟩ := hu335
                          cases e337
                          refine s_x h rfl rfl (by decide) (x_ld h.k rfl Try.underlying3 rfl rfl (h.m.cellRowE (i := 0) rfl hA329 _ (by rw [Nat.mul_one]; exact hv334))) (fun a h => ?_)
                          refine sAV h (fun a h => ?_)
                          refine l_end ?_
                          refine c_rs ?_
                          refine sMV h (fun a h => ?_)
                          refine sMV h (fun a h => ?_)
                          obtain ⟨x338, h339, hl323⟩ := bsome hl323
                          have hX := know_Set_Has_nil0_ok Fu (S0 := snapAll _) x331 hr336 _ h339 _ h.startAll
                          refine q_callX hX h rfl rfl rfl (by decide) Try.func10 rfl rfl rfl (fun a w v L1 S1 hR hb1 h => ?_)
                          obtain ⟨rfl, rfl, _⟩ := hR
                          refine s_x h rfl rfl (by decide) (x_not h.k rfl rfl) (fun a h => ?_)
                          refine l_end ?_
                          refine c_cond h rfl (fun hb => ?_) (fun hb => ?_)
                          · rw [if_pos hb] at hl323
                            refine c_rs ?_
                            refine sAV h (fun a h => ?_)
                            refine l_end ?_
                            refine wp_ret ?_
                            refine e_blkR ?_
                            refine e_thenR ?_
                            refine e_thenR ?_
                            refine e_blkR ?_
                            refine e_thenR ?_
                            cases hl323
                            try dsimp only at hf
                            refine e_thenR ?_
                            rw [← Option.some.inj hf]
                            exact r_ret1 h rfl (rv_tmp h rfl) ⟨_, [], _, rfl, ⟨rfl, rfl, trivial⟩, rfl, up148, (h.m.pick [1] _ (by decide) rfl)⟩
                          · rw [if_neg (by rw [hb]; decide)] at hl323
                            refine wp_skip ?_
                            refine e_blkN ?_
                            refine e_thenN ?_
                            refine c_r ?_
                            refine s_x h rfl rfl (by decide) (x_bin h.k rfl rfl rfl (ib_add rfl)) (fun a h => ?_)
                            refine sMV h (fun a h => ?_)
                            refine l_nil ?_
                            exact e_thenN ⟨m324, Nat.lt_succ_self _, w64 (x321 + 1), hl323, (w64_r _), h.has (by exact ⟨rfl, rfl, rfl, rfl, trivial⟩)⟩
                        · rw [if_neg (of_decide_eq_false hb)] at hl323
                          refine wp_exit ?_
                          refine e_thenX ?_
                          refine e_thenX ?_
                          refine e_blkX ?_
                          refine e_thenN ?_
                          have h := h.pick [1] (by decide) rfl
                          exact ⟨(Option.some.inj hl323), h.has trivial⟩
                      · rintro a w ⟨rfl, h⟩
                        try dsimp only at hf
                        refine e_thenN ?_
                        refine c_rs ?_
                        refine sAV h (fun a h => ?_)
                        refine l_end ?_
                        refine wp_ret ?_
                        rw [← Option.some.inj hf]
                        exact r_ret1 h rfl (rv_tmp h rfl) ⟨_, [], _, rfl, ⟨rfl, rfl, trivial⟩, rfl, up148, h.m⟩
            · obtain ⟨x342, rfl, hR⟩ := hR
              dsimp only at hf
              obtain ⟨g343, A344, c345, A347, c348, cs349, A351, c352, cs353, A356, c357, cs358, g360, es361, cl362, g364, es365, cl366, rfl, rfl, hs346, hq350, hq354, hr355, hq359, hm363, hm367, _⟩ := hR
              refine sMV h (fun a h => ?_)
              refine s_x h rfl rfl (by decide) (x_ext h.k rfl rfl rfl) (fun a h => ?_)
              refine s_x h rfl rfl (by decide) (x_ext h.k rfl rfl rfl) (fun a h => ?_)
              refine sAV h (fun a h => ?_)
              refine sAV h (fun a h => ?_)
              refine l_end ?_
              refine wp_seq ?_
              refine c_rs ?_
              refine sMV h (fun a h => ?_)
              refine sMV h (fun a h => ?_)
              refine s_x h rfl rfl (by decide) (x_bin h.k rfl rfl rfl ib_neq) (fun a h => ?_)
              refine l_end ?_
              refine c_cond h rfl (fun hb => ?_) (fun hb => ?_)
              · rw [if_pos (of_decide_eq_true hb)] at hf
                refine c_rs ?_
                refine sAV h (fun a h => ?_)
                refine l_end ?_
                refine wp_ret ?_
                refine e_thenR ?_
                rw [← Option.some.inj hf]
                exact r_ret1 h rfl (rv_tmp h rfl) ⟨_, [], _, rfl, ⟨rfl, rfl, trivial⟩, rfl, up114, (h.m.pick [7] _ (by decide) rfl)⟩
              · rw [if_neg (of_decide_eq_false hb)] at hf
                refine wp_skip ?_
                refine e_thenN ?_
                refine wp_seq ?_
                refine c_rs ?_
                refine sMV h (fun a h => ?_)
                refine s_x h rfl rfl (by decide) (x_bin h.k rfl rfl rfl ib_neq) (fun a h => ?_)
                refine l_end ?_
                refine c_cond h rfl (fun hb => ?_) (fun hb => ?_)
                · rw [if_pos (of_decide_eq_true hb)] at hf
                  refine c_rs ?_
                  refine sMV h (fun a h => ?_)
                  refine s_x h rfl rfl (by decide) (x_eql_nn h.k rfl Try.underlying25 rfl rfl) (fun a h => ?_)
                  refine sMV h (fun a h => ?_)
                  refine q_grp h 3 (t := 95) 98 false rfl (fun hB2 => ?_) (fun hB2 => ?_) (fun a w h => ?_)
                  · refine g_yes h rfl rfl rfl rfl hB2 ?_
                    refine sMV h (fun a h => ?_)
                    refine g_yes h rfl rfl rfl rfl hB2 ?_
                    refine s_x h rfl rfl (by decide) (x_eql_pn h.k rfl Try.underlying25 rfl rfl) (fun a h => ?_)
                    refine s_x h rfl rfl (by decide) (x_pick (u' := undef) h.k rfl rfl (fun _ => rfl) (fun hh => absurd (hB2.symm.trans hh) (by decide))) (fun a h => ?_)
                    exact (h.mid 2 rfl).val (by first | rfl | (rw [hB2]; first | rfl | simp))
                  · exact absurd hB2 (by decide)
                  refine sAV h (fun a h => ?_)
                  refine l_end ?_
                  refine wp_ret ?_
                  refine e_thenR ?_
                  rw [← Option.some.inj hf]
                  exact r_ret1 h rfl (rv_tmp h rfl) ⟨_, [], _, rfl, ⟨rfl, rfl, trivial⟩, rfl, up114, (h.m.pick [7] _ (by decide) rfl)⟩
                · rw [if_neg (of_decide_eq_false hb)] at hf
                  refine wp_skip ?_
                  refine e_thenN ?_
                  refine c_rs ?_
                  refine sMV h (fun a h => ?_)
                  refine sMV h (fun a h => ?_)
                  obtain ⟨x370, h371, hf⟩ := bsome hf
                  have hX := know_Set_List_nil0_ok Fu (S0 := snapAll _)  _ h371 _ h.startAll
                  refine q_callX hX h rfl rfl rfl (by decide) Try.func12 rfl rfl rfl (fun a w v L1 S1 hR hb1 h => ?_)
                  obtain ⟨A373, c374, cs375, rfl, rfl, hq376, _⟩ := hR
                  have hq377 := hq376.fl (S' := S113) fl_I
                  have h := h.pick [0, 8, 1, 2, 3, 4, 5, 6, 7, 9] (by decide) rfl
                  obtain ⟨S378, le379, up380, hs381, h⟩ := q_freeze (T := tyI) h up114 hq377
                  obtain ⟨x382, h383, hf⟩ := bsome hf
                  have h := h.pick [4, 5, 6, 7, 0, 1, 2, 3, 8] (by decide) rfl
                  have hX := know_From_ok Fu (S0 := S378) x342.2.2 g43 A356 c357 cs358 g360 es361 cl362 g364 es365 cl366 (hq359.mono le379) (hm363.mono le379) (hm367.mono le379) A373 c374 x370 hs381 _ h383 _ (h.sub (Ls := [.box g43 52 ([.slice A356 x342.2.2.1.length c357, .map (some g360), .map (some g364)]), .row (.slice A356 x342.2.2.1.length c357) 46 3 x342.2.2.1.length cs358, .obj g360 (.map es361 cl362), .obj g364 (.map es365 cl366)]))
                  refine q_callY (Ls := [.box g43 52 ([.slice A356 x342.2.2.1.length c357, .map (some g360), .map (some g364)]), .row (.slice A356 x342.2.2.1.length c357) 46 3 x342.2.2.1.length cs358, .obj g360 (.map es361 cl362), .obj g364 (.map es365 cl366)]) hX h up380 rfl rfl rfl (by decide) Try.func6 rfl rfl rfl (fun a w v L1 S385 hR le387 up386 h => ?_)
                  rcases hR with hR | hR
                  · obtain ⟨x388, rfl, hR⟩ := hR
                    dsimp only at hf
                    obtain ⟨A390, c391, cs392, g394, es395, cl396, g398, es399, cl400, rfl, rfl, hr389, hq393, hm397, hm401, _⟩ := hR
                    refine sMV h (fun a h => ?_)
                    refine s_x h rfl rfl (by decide) (x_ext h.k rfl rfl rfl) (fun a h => ?_)
                    refine s_x h rfl rfl (by decide) (x_ext h.k rfl rfl rfl) (fun a h => ?_)
                    refine sAV h (fun a h => ?_)
                    refine sAV h (fun a h => ?_)
                    refine l_end ?_
                    refine wp_seq ?_
                    refine c_rs ?_
                    refine sMV h (fun a h => ?_)
                    refine s_x h rfl rfl (by decide) (x_bin h.k rfl rfl rfl ib_neq) (fun a h => ?_)
                    refine sMV h (fun a h => ?_)
                    obtain ⟨z403, hz402, hf⟩ := bsome hf
                    refine q_grp h 7 (t := 108) 115 z403 rfl (fun hB2 => ?_) (fun hB2 => ?_) (fun a w h => ?_)
                    · refine g_no h rfl rfl rfl rfl hB2 rfl (by decide) (fun a h => ?_)
                      refine g_no h rfl rfl rfl rfl hB2 rfl (by decide) (fun a h => ?_)
                      refine g_no h rfl rfl rfl rfl hB2 rfl (by decide) (fun a h => ?_)
                      refine g_no h rfl rfl rfl rfl hB2 rfl (by decide) (fun a h => ?_)
                      refine g_no h rfl rfl rfl rfl hB2 rfl (by decide) (fun a h => ?_)
                      refine g_no h rfl rfl rfl rfl hB2 rfl (by decide) (fun a h => ?_)
                      rw [if_pos (of_decide_eq_true hB2)] at hz402
                      refine s_x h rfl rfl (by decide) (x_pick (u' := undef) h.k rfl rfl (fun _ => rfl) (fun hh => absurd (hB2.symm.trans hh) (by decide))) (fun a h => ?_)
                      exact (h.mid 6 rfl).val (by rw [Option.some.inj hz402])
                    · rw [if_neg (of_decide_eq_false hB2)] at hz402
                      refine g_yes h rfl rfl rfl rfl hB2 ?_
                      refine sMV h (fun a h => ?_)
                      refine g_yes h rfl rfl rfl rfl hB2 ?_
                      obtain ⟨x405, h406, hz402⟩ := bsome hz402
                      have hX := know_Set_List_nil0_ok Fu (S0 := snapAll _)  _ h406 _ h.startAll
                      refine q_callX hX h rfl rfl rfl (by decide) Try.func12 rfl rfl rfl (fun a w v L1 S1 hR hb1 h => ?_)
                      obtain ⟨A408, c409, cs410, rfl, rfl, hq411, _⟩ := hR
                      have hq412 := hq411.fl (S' := S385) fl_I
                      refine g_yes h rfl rfl rfl rfl hB2 ?_
                      refine sMV h (fun a h => ?_)
                      refine g_yes h rfl rfl rfl rfl hB2 ?_
                      obtain ⟨x413, h414, hz402⟩ := bsome hz402
                      have hX := know_Set_List_ok Fu (S0 := snapAll _) g343 x342.1 ⟨[.slice A344 x342.1.1.length c345, .slice A347 x342.1.2.1.length c348, .slice A351 x342.1.2.2.1.length c352, .bool x342.1.2.2.2], h.m.boxAll (i := 6) rfl, ⟨[.slice A344 x342.1.1.length c345], [.slice A347 x342.1.2.1.length c348, .slice A351 x342.1.2.2.1.length c352, .bool x342.1.2.2.2], rfl, ⟨_, _, rfl, ((hs346.mono (le379.trans le387))).mono (h.m.leAll (i := 5) rfl)⟩, ⟨[.slice A347 x342.1.2.1.length c348], [.slice A351 x342.1.2.2.1.length c352, .bool x342.1.2.2.2], rfl, ⟨_, _, rfl, h.m.rowAll (i := 7) rfl (j := 5) rfl (hq350.mono (le379.trans le387))⟩, ⟨[.slice A351 x342.1.2.2.1.length c352], [.bool x342.1.2.2.2], rfl, ⟨_, _, rfl, h.m.rowAll (i := 8) rfl (j := 5) rfl (hq354.mono (le379.trans le387))⟩, rfl⟩⟩⟩⟩ _ h414 _ h.startAll
                      refine q_callX hX h rfl rfl rfl (by decide) Try.func12 rfl rfl rfl (fun a w v L1 S1 hR hb1 h => ?_)
                      obtain ⟨A416, c417, cs418, rfl, rfl, hq419, _⟩ := hR
                      have hq420 := hq419.fl (S' := S385) fl_I
                      refine g_yes h rfl rfl rfl rfl hB2 ?_
                      obtain ⟨x421, h422, hz402⟩ := bsome hz402
                      have hX := chatelaineref01_Ints_ok Fu (S0 := snapAll _) A408 c409 x405 (h.m.rowAll (i := 1) rfl (j := 6) rfl hq412) A416 c417 x413 (h.m.rowAll (i := 0) rfl (j := 6) rfl hq420) _ h422 _ h.startAll
                      refine q_callX hX h rfl rfl rfl (by decide) Try.func11 rfl rfl rfl (fun a w v L1 S1 hR hb1 h => ?_)
                      obtain ⟨rfl, rfl, _⟩ := hR
                      refine g_yes h rfl rfl rfl rfl hB2 ?_
                      refine s_x h rfl rfl (by decide) (x_not h.k rfl rfl) (fun a h => ?_)
                      refine s_x h rfl rfl (by decide) (x_pick (u' := undef) h.k rfl rfl (fun hh => absurd (hB2.symm.trans hh) (by decide)) (fun _ => rfl)) (fun a h => ?_)
                      have h := h.pick [2, 3, 4, 5, 6, 7, 8, 9, 10] (by decide) rfl
                      exact (h.mid 6 rfl).val (by rw [Option.some.inj hz402])
                    refine sMV h (fun a h => ?_)
                    obtain ⟨z425, hz424, hf⟩ := bsome hf
                    refine q_grp h 7 (t := 116) 123 z425 rfl (fun hB10 => ?_) (fun hB10 => ?_) (fun a w h => ?_)
                    · refine g_no h rfl rfl rfl rfl hB10 rfl (by decide) (fun a h => ?_)
                      refine g_no h rfl rfl rfl rfl hB10 rfl (by decide) (fun a h => ?_)
                      refine g_no h rfl rfl rfl rfl hB10 rfl (by decide) (fun a h => ?_)
                      refine g_no h rfl rfl rfl rfl hB10 rfl (by decide) (fun a h => ?_)
                      refine g_no h rfl rfl rfl rfl hB10 rfl (by decide) (fun a h => ?_)
                      refine g_no h rfl rfl rfl rfl hB10 rfl (by decide) (fun a h => ?_)
                      rw [if_pos hB10] at hz424
                      refine s_x h rfl rfl (by decide) (x_pick (u' := undef) h.k rfl rfl (fun _ => rfl) (fun hh => absurd (hB10.symm.trans hh) (by decide))) (fun a h => ?_)
                      exact (h.mid 6 rfl).val (by rw [Option.some.inj hz424])
                    · rw [if_neg (by rw [hB10]; decide)] at hz424
                      refine g_yes h rfl rfl rfl rfl hB10 ?_
                      refine sMV h (fun a h => ?_)
                      refine g_yes h rfl rfl rfl rfl hB10 ?_
                      obtain ⟨x427, h428, hz424⟩ := bsome hz424
                      have hX := know_Set_List_nil0_ok Fu (S0 := snapAll _)  _ h428 _ h.startAll
                      refine q_callX hX h rfl rfl rfl (by decide) Try.func12 rfl rfl rfl (fun a w v L1 S1 hR hb1 h => ?_)
                      obtain ⟨A430, c431, cs432, rfl, rfl, hq433, _⟩ := hR
                      have hq434 := hq433.fl (S' := S385) fl_I
                      refine g_yes h rfl rfl rfl rfl hB10 ?_
                      refine sMV h (fun a h => ?_)
                      refine g_yes h rfl rfl rfl rfl hB10 ?_
                      obtain ⟨x435, h436, hz424⟩ := bsome hz424
                      have hX := know_Set_List_nil0_ok Fu (S0 := snapAll _)  _ h436 _ h.startAll
                      refine q_callX hX h rfl rfl rfl (by decide) Try.func12 rfl rfl rfl (fun a w v L1 S1 hR hb1 h => ?_)
                      obtain ⟨A438, c439, cs440, rfl, rfl, hq441, _⟩ := hR
                      have hq442 := hq441.fl (S' := S385) fl_I
                      refine g_yes h rfl rfl rfl rfl hB10 ?_
                      obtain ⟨x443, h444, hz424⟩ := bsome hz424
                      have hX := chatelaineref01_Ints_ok Fu (S0 := snapAll _) A430 c431 x427 (h.m.rowAll (i := 1) rfl (j := 6) rfl hq434) A438 c439 x435 (h.m.rowAll (i := 0) rfl (j := 6) rfl hq442) _ h444 _ h.startAll
                      refine q_callX hX h rfl rfl rfl (by decide) Try.func11 rfl rfl rfl (fun a w v L1 S1 hR hb1 h => ?_)
                      obtain ⟨rfl, rfl, _⟩ := hR
                      refine g_yes h rfl rfl rfl rfl hB10 ?_
                      refine s_x h rfl rfl (by decide) (x_not h.k rfl rfl) (fun a h => ?_)
                      refine s_x h rfl rfl (by decide) (x_pick (u' := undef) h.k rfl rfl (fun hh => absurd (hB10.symm.trans hh) (by decide)) (fun _ => rfl)) (fun a h => ?_)
                      have h := h.pick [2, 3, 4, 5, 6, 7, 8, 9, 10] (by decide) rfl
                      exact (h.mid 6 rfl).val (by rw [Option.some.inj hz424])
                    refine l_end ?_
                    refine c_cond h rfl (fun hb => ?_) (fun hb => ?_)
                    · rw [if_pos hb] at hf
                      refine c_rs ?_
                      refine sAV h (fun a h => ?_)
                      refine l_end ?_
                      refine wp_ret ?_
                      refine e_thenR ?_
                      rw [← Option.some.inj hf]
                      exact r_ret1 h rfl (rv_tmp h rfl) ⟨_, [], _, rfl, ⟨rfl, rfl, trivial⟩, rfl, up386, (h.m.pick [4] _ (by decide) rfl)⟩
                    · rw [if_neg (by rw [hb]; decide)] at hf
                      refine wp_skip ?_
                      refine e_thenN ?_
                      refine wp_seq ?_
                      refine c_rs ?_
                      refine sMV h (fun a h => ?_)
                      obtain ⟨x446, h447, hf⟩ := bsome hf
                      have hX := know_Set_List_nil0_ok Fu (S0 := snapAll _)  _ h447 _ h.startAll
                      refine q_callX hX h rfl rfl rfl (by decide) Try.func12 rfl rfl rfl (fun a w v L1 S1 hR hb1 h => ?_)
                      obtain ⟨A449, c450, cs451, rfl, rfl, hq452, _⟩ := hR
                      have hq453 := hq452.fl (S' := S385) fl_I
                      have hr454 : r64 (x446.length : Int) := len_r (h.m.rowLen (i := 0) rfl)
                      refine s_x h rfl rfl (by decide) (x_len h.k rfl Try.underlying23 rfl) (fun a h => ?_)
                      refine sMV h (fun a h => ?_)
                      refine l_end ?_
                      obtain ⟨o455, hl456, hf⟩ := bsome hf
                      refine c_fin (fun a w => (.inr ()) = o455 ∧ St 136 w0 (ownL ([] ++ [.sn S0])) [] [.sn S385] a w) ?_ ?_
                      · refine wp_block ?_
                        have h := h.pick [0, 5] (by decide) rfl
                        refine c_loop (fun m460 a w => ∃ (x457 : Int), chatelainelaw37_KnowMore_l2 Fu x446 m460 x457 = some o455 ∧ r64 x457 ∧ St 136 w0 (ownL ([] ++ [.sn S0])) [(14, .pointer none), (125, .slice A449 x446.length c450), (126, .int .i64 (x446.length : Int)), (127, .int .i64 x457)] [.row (.slice A449 x446.length c450) 3 1 x446.length cs451, .sn S385] a w) Fu ⟨0, hl456, (show r64 0 from ⟨by decide, by decide⟩), h.has (by exact ⟨rfl, rfl, rfl, rfl, trivial⟩)⟩ (fun m460 a w hI => ?_)
                        obtain ⟨x457, hl459, hr458, h⟩ := hI
                        obtain _ | m460 := m460
                        · rw [chatelainelaw37_KnowMore_l2] at hl459; cases hl459
                        rw [chatelainelaw37_KnowMore_l2] at hl459
                        refine c_rs ?_
                        refine s_x h rfl rfl (by decide) (x_bin h.k rfl rfl rfl ib_lss) (fun a h => ?_)
                        refine l_end ?_
                        refine c_cs h rfl (fun hb => ?_) (fun hb => ?_)
                        · rw [if_pos (of_decide_eq_true hb)] at hl459
                          refine wp_skip ?_
                          refine e_thenN ?_
                          refine wp_seq ?_
                          refine wp_block ?_
                          refine c_rs ?_
                          obtain ⟨m461, h462, hl459⟩ := bsome hl459
                          obtain ⟨hi463, hm464⟩ := ix_some h462
                          obtain ⟨g466, hA465⟩ := h.m.rowHead (i := 0) rfl (Nat.lt_of_le_of_lt (Nat.zero_le _) hm464)
                          refine s_x h rfl rfl (by decide) (x_iaddrE h.k rfl Try.underlying23 sz_int hA465 rfl rfl hi463 hm464) (fun a h => ?_)
                          obtain ⟨x467, h468, hl459⟩ := bsome hl459
                          obtain ⟨u469, hv470, hu471⟩ := (hq453).cell rfl h468
                          obtain ⟨e473, hr472⟩ := hu471
                          cases e473
                          refine s_x h rfl rfl (by decide) (x_ld h.k rfl Try.underlying3 rfl rfl (h.m.cellRowE (i := 0) rfl hA465 _ (by rw [Nat.mul_one]; exact hv470))) (fun a h => ?_)
                          refine sAV h (fun a h => ?_)
                          refine l_end ?_
                          refine c_rs ?_
                          refine sMV h (fun a h => ?_)
                          refine sMV h (fun a h => ?_)
                          obtain ⟨x474, h475, hl459⟩ := bsome hl459
                          have hX := know_Set_Has_nil0_ok Fu (S0 := snapAll _) x467 hr472 _ h475 _ h.startAll
                          refine q_callX hX h rfl rfl rfl (by decide) Try.func10 rfl rfl rfl (fun a w v L1 S1 hR hb1 h => ?_)
                          obtain ⟨rfl, rfl, _⟩ := hR
                          refine s_x h rfl rfl (by decide) (x_not h.k rfl rfl) (fun a h => ?_)
                          refine l_end ?_
                          refine c_cond h rfl (fun hb => ?_) (fun hb => ?_)
                          · rw [if_pos hb] at hl459
                            refine c_rs ?_
                            refine sAV h (fun a h => ?_)
                            refine l_end ?_
                            refine wp_ret ?_
                            refine e_blkR ?_
                            refine e_thenR ?_
                            refine e_thenR ?_
                            refine e_blkR ?_
                            refine e_thenR ?_
                            cases hl459
                            try dsimp only at hf
                            refine e_thenR ?_
                            rw [← Option.some.inj hf]
                            exact r_ret1 h rfl (rv_tmp h rfl) ⟨_, [], _, rfl, ⟨rfl, rfl, trivial⟩, rfl, up386, (h.m.pick [1] _ (by decide) rfl)⟩
                          · rw [if_neg (by rw [hb]; decide)] at hl459
                            refine wp_skip ?_
                            refine e_blkN ?_
                            refine e_thenN ?_
                            refine c_r ?_
                            refine s_x h rfl rfl (by decide) (x_bin h.k rfl rfl rfl (ib_add rfl)) (fun a h => ?_)
                            refine sMV h (fun a h => ?_)
                            refine l_nil ?_
                            exact e_thenN ⟨m460, Nat.lt_succ_self _, w64 (x457 + 1), hl459, (w64_r _), h.has (by exact ⟨rfl, rfl, rfl, rfl, trivial⟩)⟩
                        · rw [if_neg (of_decide_eq_false hb)] at hl459
                          refine wp_exit ?_
                          refine e_thenX ?_
                          refine e_thenX ?_
                          refine e_blkX ?_
                          refine e_thenN ?_
                          have h := h.pick [1] (by decide) rfl
                          exact ⟨(Option.some.inj hl459), h.has trivial⟩
                      · rintro a w ⟨rfl, h⟩
                        try dsimp only at hf
                        refine e_thenN ?_
                        refine c_rs ?_
                        refine sAV h (fun a h => ?_)
                        refine l_end ?_
                        refine wp_ret ?_
                        rw [← Option.some.inj hf]
                        exact r_ret1 h rfl (rv_tmp h rfl) ⟨_, [], _, rfl, ⟨rfl, rfl, trivial⟩, rfl, up386, h.m⟩
                  · obtain ⟨x478, rfl, hR⟩ := hR
                    dsimp only at hf
                    obtain ⟨g479, A480, c481, A483, c484, cs485, A487, c488, cs489, A492, c493, cs494, g496, es497, cl498, g500, es501, cl502, rfl, rfl, hs482, hq486, hq490, hr491, hq495, hm499, hm503, _⟩ := hR
                    refine sMV h (fun a h => ?_)
                    refine s_x h rfl rfl (by decide) (x_ext h.k rfl rfl rfl) (fun a h => ?_)
                    refine s_x h rfl rfl (by decide) (x_ext h.k rfl rfl rfl) (fun a h => ?_)
                    refine sAV h (fun a h => ?_)
                    refine sAV h (fun a h => ?_)
                    refine l_end ?_
                    refine wp_seq ?_
                    refine c_rs ?_
                    refine sMV h (fun a h => ?_)
                    refine s_x h rfl rfl (by decide) (x_bin h.k rfl rfl rfl ib_neq) (fun a h => ?_)
                    refine sMV h (fun a h => ?_)
                    obtain ⟨z505, hz504, hf⟩ := bsome hf
                    refine q_grp h 7 (t := 108) 115 z505 rfl (fun hB2 => ?_) (fun hB2 => ?_) (fun a w h => ?_)
                    · refine g_no h rfl rfl rfl rfl hB2 rfl (by decide) (fun a h => ?_)
                      refine g_no h rfl rfl rfl rfl hB2 rfl (by decide) (fun a h => ?_)
                      refine g_no h rfl rfl rfl rfl hB2 rfl (by decide) (fun a h => ?_)
                      refine g_no h rfl rfl rfl rfl hB2 rfl (by decide) (fun a h => ?_)
                      refine g_no h rfl rfl rfl rfl hB2 rfl (by decide) (fun a h => ?_)
                      refine g_no h rfl rfl rfl rfl hB2 rfl (by decide) (fun a h => ?_)
                      rw [if_pos (of_decide_eq_true hB2)] at hz504
                      refine s_x h rfl rfl (by decide) (x_pick (u' := undef) h.k rfl rfl (fun _ => rfl) (fun hh => absurd (hB2.symm.trans hh) (by decide))) (fun a h => ?_)
                      exact (h.mid 6 rfl).val (by rw [Option.some.inj hz504])
                    · rw [if_neg (of_decide_eq_false hB2)] at hz504
                      refine g_yes h rfl rfl rfl rfl hB2 ?_
                      refine sMV h (fun a h => ?_)
                      refine g_yes h rfl rfl rfl rfl hB2 ?_
                      obtain ⟨x507, h508, hz504⟩ := bsome hz504
                      have hX := know_Set_List_nil0_ok Fu (S0 := snapAll _)  _ h508 _ h.startAll
                      refine q_callX hX h rfl rfl rfl (by decide) Try.func12 rfl rfl rfl (fun a w v L1 S1 hR hb1 h => ?_)
                      obtain ⟨A510, c511, cs512, rfl, rfl, hq513, _⟩ := hR
                      have hq514 := hq513.fl (S' := S385) fl_I
                      refine g_yes h rfl rfl rfl rfl hB2 ?_
                      refine sMV h (fun a h => ?_)
                      refine g_yes h rfl rfl rfl rfl hB2 ?_
                      obtain ⟨x515, h516, hz504⟩ := bsome hz504
                      have hX := know_Set_List_ok Fu (S0 := snapAll _) g343 x342.1 ⟨[.slice A344 x342.1.1.length c345, .slice A347 x342.1.2.1.length c348, .slice A351 x342.1.2.2.1.length c352, .bool x342.1.2.2.2], h.m.boxAll (i := 9) rfl, ⟨[.slice A344 x342.1.1.length c345], [.slice A347 x342.1.2.1.length c348, .slice A351 x342.1.2.2.1.length c352, .bool x342.1.2.2.2], rfl, ⟨_, _, rfl, ((hs346.mono (le379.trans le387))).mono (h.m.leAll (i := 8) rfl)⟩, ⟨[.slice A347 x342.1.2.1.length c348], [.slice A351 x342.1.2.2.1.length c352, .bool x342.1.2.2.2], rfl, ⟨_, _, rfl, h.m.rowAll (i := 10) rfl (j := 8) rfl (hq350.mono (le379.trans le387))⟩, ⟨[.slice A351 x342.1.2.2.1.length c352], [.bool x342.1.2.2.2], rfl, ⟨_, _, rfl, h.m.rowAll (i := 11) rfl (j := 8) rfl (hq354.mono (le379.trans le387))⟩, rfl⟩⟩⟩⟩ _ h516 _ h.startAll
                      refine q_callX hX h rfl rfl rfl (by decide) Try.func12 rfl rfl rfl (fun a w v L1 S1 hR hb1 h => ?_)
                      obtain ⟨A518, c519, cs520, rfl, rfl, hq521, _⟩ := hR
                      have hq522 := hq521.fl (S' := S385) fl_I
                      refine g_yes h rfl rfl rfl rfl hB2 ?_
                      obtain ⟨x523, h524, hz504⟩ := bsome hz504
                      have hX := chatelaineref01_Ints_ok Fu (S0 := snapAll _) A510 c511 x507 (h.m.rowAll (i := 1) rfl (j := 9) rfl hq514) A518 c519 x515 (h.m.rowAll (i := 0) rfl (j := 9) rfl hq522) _ h524 _ h.startAll
                      refine q_callX hX h rfl rfl rfl (by decide) Try.func11 rfl rfl rfl (fun a w v L1 S1 hR hb1 h => ?_)
                      obtain ⟨rfl, rfl, _⟩ := hR
                      refine g_yes h rfl rfl rfl rfl hB2 ?_
                      refine s_x h rfl rfl (by decide) (x_not h.k rfl rfl) (fun a h => ?_)
                      refine s_x h rfl rfl (by decide) (x_pick (u' := undef) h.k rfl rfl (fun hh => absurd (hB2.symm.trans hh) (by decide)) (fun _ => rfl)) (fun a h => ?_)
                      have h := h.pick [2, 3, 4, 5, 6, 7, 8, 9, 10, 11, 12, 13] (by decide) rfl
                      exact (h.mid 6 rfl).val (by rw [Option.some.inj hz504])
                    refine sMV h (fun a h => ?_)
                    obtain ⟨z527, hz526, hf⟩ := bsome hf
                    refine q_grp h 7 (t := 116) 123 z527 rfl (fun hB10 => ?_) (fun hB10 => ?_) (fun a w h => ?_)
                    · refine g_no h rfl rfl rfl rfl hB10 rfl (by decide) (fun a h => ?_)
                      refine g_no h rfl rfl rfl rfl hB10 rfl (by decide) (fun a h => ?_)
                      refine g_no h rfl rfl rfl rfl hB10 rfl (by decide) (fun a h => ?_)
                      refine g_no h rfl rfl rfl rfl hB10 rfl (by decide) (fun a h => ?_)
                      refine g_no h rfl rfl rfl rfl hB10 rfl (by decide) (fun a h => ?_)
                      refine g_no h rfl rfl rfl rfl hB10 rfl (by decide) (fun a h => ?_)
                      rw [if_pos hB10] at hz526
                      refine s_x h rfl rfl (by decide) (x_pick (u' := undef) h.k rfl rfl (fun _ => rfl) (fun hh => absurd (hB10.symm.trans hh) (by decide))) (fun a h => ?_)
                      exact (h.mid 6 rfl).val (by rw [Option.some.inj hz526])
                    · rw [if_neg (by rw [hB10]; decide)] at hz526
                      refine g_yes h rfl rfl rfl rfl hB10 ?_
                      refine sMV h (fun a h => ?_)
                      refine g_yes h rfl rfl rfl rfl hB10 ?_
                      obtain ⟨x529, h530, hz526⟩ := bsome hz526
                      have hX := know_Set_List_ok Fu (S0 := snapAll _) g479 x478.1 ⟨[.slice A480 x478.1.1.length c481, .slice A483 x478.1.2.1.length c484, .slice A487 x478.1.2.2.1.length c488, .bool x478.1.2.2.2], h.m.boxAll (i := 0) rfl, ⟨[.slice A480 x478.1.1.length c481], [.slice A483 x478.1.2.1.length c484, .slice A487 x478.1.2.2.1.length c488, .bool x478.1.2.2.2], rfl, ⟨_, _, rfl, (hs482).mono (h.m.leAll (i := 7) rfl)⟩, ⟨[.slice A483 x478.1.2.1.length c484], [.slice A487 x478.1.2.2.1.length c488, .bool x478.1.2.2.2], rfl, ⟨_, _, rfl, h.m.rowAll (i := 1) rfl (j := 7) rfl hq486⟩, ⟨[.slice A487 x478.1.2.2.1.length c488], [.bool x478.1.2.2.2], rfl, ⟨_, _, rfl, h.m.rowAll (i := 2) rfl (j := 7) rfl hq490⟩, rfl⟩⟩⟩⟩ _ h530 _ h.startAll
                      refine q_callX hX h rfl rfl rfl (by decide) Try.func12 rfl rfl rfl (fun a w v L1 S1 hR hb1 h => ?_)
                      obtain ⟨A532, c533, cs534, rfl, rfl, hq535, _⟩ := hR
                      have hq536 := hq535.fl (S' := S385) fl_I
                      refine g_yes h rfl rfl rfl rfl hB10 ?_
                      refine sMV h (fun a h => ?_)
                      refine g_yes h rfl rfl rfl rfl hB10 ?_
                      obtain ⟨x537, h538, hz526⟩ := bsome hz526
                      have hX := know_Set_List_nil0_ok Fu (S0 := snapAll _)  _ h538 _ h.startAll
                      refine q_callX hX h rfl rfl rfl (by decide) Try.func12 rfl rfl rfl (fun a w v L1 S1 hR hb1 h => ?_)
                      obtain ⟨A540, c541, cs542, rfl, rfl, hq543, _⟩ := hR
                      have hq544 := hq543.fl (S' := S385) fl_I
                      refine g_yes h rfl rfl rfl rfl hB10 ?_
                      obtain ⟨x545, h546, hz526⟩ := bsome hz526
                      have hX := chatelaineref01_Ints_ok Fu (S0 := snapAll _) A532 c533 x529 (h.m.rowAll (i := 1) rfl (j := 9) rfl hq536) A540 c541 x537 (h.m.rowAll (i := 0) rfl (j := 9) rfl hq544) _ h546 _ h.startAll
                      refine q_callX hX h rfl rfl rfl (by decide) Try.func11 rfl rfl rfl (fun a w v L1 S1 hR hb1 h => ?_)
                      obtain ⟨rfl, rfl, _⟩ := hR
                      refine g_yes h rfl rfl rfl rfl hB10 ?_
                      refine s_x h rfl rfl (by decide) (x_not h.k rfl rfl) (fun a h => ?_)
                      refine s_x h rfl rfl (by decide) (x_pick (u' := undef) h.k rfl rfl (fun hh => absurd (hB10.symm.trans hh) (by decide)) (fun _ => rfl)) (fun a h => ?_)
                      have h := h.pick [2, 3, 4, 5, 6, 7, 8, 9, 10, 11, 12, 13] (by decide) rfl
                      exact (h.mid 6 rfl).val (by rw [Option.some.inj hz526])
                    refine l_end ?_
                    refine c_cond h rfl (fun hb => ?_) (fun hb => ?_)
                    · rw [if_pos hb] at hf
                      refine c_rs ?_
                      refine sAV h (fun a h => ?_)
                      refine l_end ?_
                      refine wp_ret ?_
                      refine e_thenR ?_
                      rw [← Option.some.inj hf]
                      exact r_ret1 h rfl (rv_tmp h rfl) ⟨_, [], _, rfl, ⟨rfl, rfl, trivial⟩, rfl, up386, (h.m.pick [7] _ (by decide) rfl)⟩
                    · rw [if_neg (by rw [hb]; decide)] at hf
                      refine wp_skip ?_
                      refine e_thenN ?_
                      refine wp_seq ?_
                      refine c_rs ?_
                      refine sMV h (fun a h => ?_)
                      obtain ⟨x548, h549, hf⟩ := bsome hf
                      have hX := know_Set_List_nil0_ok Fu (S0 := snapAll _)  _ h549 _ h.startAll
                      refine q_callX hX h rfl rfl rfl (by decide) Try.func12 rfl rfl rfl (fun a w v L1 S1 hR hb1 h => ?_)
                      obtain ⟨A551, c552, cs553, rfl, rfl, hq554, _⟩ := hR
                      have hq555 := hq554.fl (S' := S385) fl_I
                      have hr556 : r64 (x548.length : Int) := len_r (h.m.rowLen (i := 0) rfl)
                      refine s_x h rfl rfl (by decide) (x_len h.k rfl Try.underlying23 rfl) (fun a h => ?_)
                      refine sMV h (fun a h => ?_)
                      refine l_end ?_
                      obtain ⟨o557, hl558, hf⟩ := bsome hf
                      refine c_fin (fun a w => (.inr ()) = o557 ∧ St 136 w0 (ownL ([] ++ [.sn S0])) [] [.sn S385] a w) ?_ ?_
                      · refine wp_block ?_
                        have h := h.pick [0, 8] (by decide) rfl
                        refine c_loop (fun m562 a w => ∃ (x559 : Int), chatelainelaw37_KnowMore_l3 Fu x548 m562 x559 = some o557 ∧ r64 x559 ∧ St 136 w0 (ownL ([] ++ [.sn S0])) [(14, .pointer none), (125, .slice A551 x548.length c552), (126, .int .i64 (x548.length : Int)), (127, .int .i64 x559)] [.row (.slice A551 x548.length c552) 3 1 x548.length cs553, .sn S385] a w) Fu ⟨0, hl558, (show r64 0 from ⟨by decide, by decide⟩), h.has (by exact ⟨rfl, rfl, rfl, rfl, trivial⟩)⟩ (fun m562 a w hI => ?_)
                        obtain ⟨x559, hl561, hr560, h⟩ := hI
                        obtain _ | m562 := m562
                        · rw [chatelainelaw37_KnowMore_l3] at hl561; cases hl561
                        rw [chatelainelaw37_KnowMore_l3] at hl561
                        refine c_rs ?_
                        refine s_x h rfl rfl (by decide) (x_bin h.k rfl rfl rfl ib_lss) (fun a h => ?_)
                        refine l_end ?_
                        refine c_cs h rfl (fun hb => ?_) (fun hb => ?_)
                        · rw [if_pos (of_decide_eq_true hb)] at hl561
                          refine wp_skip ?_
                          refine e_thenN ?_
                          refine wp_seq ?_
                          refine wp_block ?_
                          refine c_rs ?_
                          obtain ⟨m563, h564, hl561⟩ := bsome hl561
                          obtain ⟨hi565, hm566⟩ := ix_some h564
                          obtain ⟨g568, hA567⟩ := h.m.rowHead (i := 0) rfl (Nat.lt_of_le_of_lt (Nat.zero_le _) hm566)
                          refine s_x h rfl rfl (by decide) (x_iaddrE h.k rfl Try.underlying23 sz_int hA567 rfl rfl hi565 hm566) (fun a h => ?_)
                          obtain ⟨x569, h570, hl561⟩ := bsome hl561
                          obtain ⟨u571, hv572, hu573⟩ := (hq555).cell rfl h570
                          obtain ⟨e575, hr574⟩ := hu573
                          cases e575
                          refine s_x h rfl rfl (by decide) (x_ld h.k rfl Try.underlying3 rfl rfl (h.m.cellRowE (i := 0) rfl hA567 _ (by rw [Nat.mul_one]; exact hv572))) (fun a h => ?_)
                          refine sAV h (fun a h => ?_)
                          refine l_end ?_
                          refine c_rs ?_
                          refine sMV h (fun a h => ?_)
                          refine sMV h (fun a h => ?_)
                          obtain ⟨x576, h577, hl561⟩ := bsome hl561
                          have hX := know_Set_Has_nil0_ok Fu (S0 := snapAll _) x569 hr574 _ h577 _ h.startAll
                          refine q_callX hX h rfl rfl rfl (by decide) Try.func10 rfl rfl rfl (fun a w v L1 S1 hR hb1 h => ?_)
                          obtain ⟨rfl, rfl, _⟩ := hR
                          refine s_x h rfl rfl (by decide) (x_not h.k rfl rfl) (fun a h => ?_)
                          refine l_end ?_
                          refine c_cond h rfl (fun hb => ?_) (fun hb => ?_)
                          · rw [if_pos hb] at hl561
                            refine c_rs ?_
                            refine sAV h (fun a h => ?_)
                            refine l_end ?_
                            refine wp_ret ?_
                            refine e_blkR ?_
                            refine e_thenR ?_
                            refine e_thenR ?_
                            refine e_blkR ?_
                            refine e_thenR ?_
                            cases hl561
                            try dsimp only at hf
                            refine e_thenR ?_
                            rw [← Option.some.inj hf]
                            exact r_ret1 h rfl (rv_tmp h rfl) ⟨_, [], _, rfl, ⟨rfl, rfl, trivial⟩, rfl, up386, (h.m.pick [1] _ (by decide) rfl)⟩
                          · rw [if_neg (by rw [hb]; decide)] at hl561
                            refine wp_skip ?_
                            refine e_blkN ?_
                            refine e_thenN ?_
                            refine c_r ?_
                            refine s_x h rfl rfl (by decide) (x_bin h.k rfl rfl rfl (ib_add rfl)) (fun a h => ?_)
                            refine sMV h (fun a h => ?_)
                            refine l_nil ?_
                            exact e_thenN ⟨m562, Nat.lt_succ_self _, w64 (x559 + 1), hl561, (w64_r _), h.has (by exact ⟨rfl, rfl, rfl, rfl, trivial⟩)⟩
                        · rw [if_neg (of_decide_eq_false hb)] at hl561
                          refine wp_exit ?_
                          refine e_thenX ?_
                          refine e_thenX ?_
                          refine e_blkX ?_
                          refine e_thenN ?_
                          have h := h.pick [1] (by decide) rfl
                          exact ⟨(Option.some.inj hl561), h.has trivial⟩
                      · rintro a w ⟨rfl, h⟩
                        try dsimp only at hf
                        refine e_thenN ?_
                        refine c_rs ?_
                        refine sAV h (fun a h => ?_)
                        refine l_end ?_
                        refine wp_ret ?_
                        rw [← Option.some.inj hf]
                        exact r_ret1 h rfl (rv_tmp h rfl) ⟨_, [], _, rfl, ⟨rfl, rfl, trivial⟩, rfl, up386, h.m⟩
        · obtain ⟨x580, rfl, hR⟩ := hR
          dsimp only at hf
          obtain ⟨g581, A582, c583, A585, c586, cs587, A589, c590, cs591, A594, c595, cs596, g598, es599, cl600, g602, es603, cl604, rfl, rfl, hs584, hq588, hq592, hr593, hq597, hm601, hm605, _⟩ := hR
          refine sMV h (fun a h => ?_)
          refine s_x h rfl rfl (by decide) (x_ext h.k rfl rfl rfl) (fun a h => ?_)
          refine s_x h rfl rfl (by decide) (x_ext h.k rfl rfl rfl) (fun a h => ?_)
          refine sAV h (fun a h => ?_)
          refine sAV h (fun a h => ?_)
          refine l_end ?_
          refine wp_seq ?_
          refine c_rs ?_
          refine sMV h (fun a h => ?_)
          refine s_x h rfl rfl (by decide) (x_bin h.k rfl rfl rfl ib_neq) (fun a h => ?_)
          refine l_end ?_
          refine c_cond h rfl (fun hb => ?_) (fun hb => ?_)
          · rw [if_pos (of_decide_eq_true hb)] at hf
            refine c_rs ?_
            refine sMV h (fun a h => ?_)
            refine s_x h rfl rfl (by decide) (x_eql_pn h.k rfl Try.underlying25 rfl rfl) (fun a h => ?_)
            refine sAV h (fun a h => ?_)
            refine l_end ?_
            refine wp_ret ?_
            refine e_thenR ?_
            rw [← Option.some.inj hf]
            exact r_ret1 h rfl (rv_tmp h rfl) ⟨_, [], _, rfl, ⟨rfl, rfl, trivial⟩, rfl, up64, (h.m.pick [7] _ (by decide) rfl)⟩
          · rw [if_neg (of_decide_eq_false hb)] at hf
            refine wp_skip ?_
            refine e_thenN ?_
            refine c_rs ?_
            refine sMV h (fun a h => ?_)
            refine sMV h (fun a h => ?_)
            have h := h.pick [1, 7, 0, 2, 3, 4, 5, 6, 8] (by decide) rfl
            obtain ⟨S606, le607, up608, hs609, h⟩ := q_freeze (T := tyB) h up64 hq588
            have h := h.pick [2, 0, 1, 3, 4, 5, 6, 7] (by decide) rfl
            obtain ⟨S610, le611, up612, hs613, h⟩ := q_freeze (T := tyI) h up608 (hq592.mono le607)
            have h := h.pick [1, 0, 2, 3, 4, 5, 6] (by decide) rfl
            obtain ⟨S614, le615, up616, hc617, h⟩ := q_freezeBox h up612
            have hp618 : ptS (tyP (tyL (tyP tyI (tyP tyI tyI))) (tyP (tyL tyB) (tyP (tyL tyI) tyB))) S614 g581 (x580.1.1, x580.1.2.1, x580.1.2.2.1, x580.1.2.2.2) := ⟨[.slice A582 x580.1.1.length c583, .slice A585 x580.1.2.1.length c586, .slice A589 x580.1.2.2.1.length c590, .bool x580.1.2.2.2], hc617, ⟨[.slice A582 x580.1.1.length c583], [.slice A585 x580.1.2.1.length c586, .slice A589 x580.1.2.2.1.length c590, .bool x580.1.2.2.2], rfl, ⟨_, _, rfl, (hs584.mono ((le607.trans le611).trans le615))⟩, ⟨[.slice A585 x580.1.2.1.length c586], [.slice A589 x580.1.2.2.1.length c590, .bool x580.1.2.2.2], rfl, ⟨_, _, rfl, (hs609.mono (le611.trans le615))⟩, ⟨[.slice A589 x580.1.2.2.1.length c590], [.bool x580.1.2.2.2], rfl, ⟨_, _, rfl, (hs613.mono le615)⟩, rfl⟩⟩⟩⟩
            obtain ⟨x619, h620, hf⟩ := bsome hf
            have hX := know_Set_More_ok Fu (S0 := S614) g581 (x580.1.1, x580.1.2.1, x580.1.2.2.1, x580.1.2.2.2) hp618 Aa2 ca2 a2 (hsa2.mono (((((le9.trans le42).trans le65).trans le607).trans le611).trans le615)) _ h620 _ (h.sub (Ls := []))
            refine q_callY (Ls := []) hX h up616 rfl rfl rfl (by decide) Try.func14 rfl rfl rfl (fun a w v L1 S622 hR le624 up623 h => ?_)
            rcases hR with hR | hR
            · obtain ⟨x625, rfl, hR⟩ := hR
              dsimp only at hf
              obtain ⟨rfl, rfl, hr626, _⟩ := hR
              refine sMV h (fun a h => ?_)
              refine s_x h rfl rfl (by decide) (x_ext h.k rfl rfl rfl) (fun a h => ?_)
              refine s_x h rfl rfl (by decide) (x_ext h.k rfl rfl rfl) (fun a h => ?_)
              refine sAV h (fun a h => ?_)
              refine sAV h (fun a h => ?_)
              refine l_end ?_
              refine c_rs ?_
              refine sMV h (fun a h => ?_)
              refine q_bslice0 h rfl rfl rfl (by decide) Try.underlying23 sz_int (fun a w A627 h => ?_)
              refine sMV h (fun a h => ?_)
              obtain ⟨x628, h629, hf⟩ := bsome hf
              obtain ⟨_, _, vs630, hrd631, hrp632⟩ := id (hsa1.mono ((((((le9.trans le42).trans le65).trans le607).trans le611).trans le615).trans le624))
              refine q_append (T := tyI) (S := S622) h rfl rfl rfl (by decide) Try.underlying23 zb_int rfl (by decide) rfl 0 rfl (show reps tyI S622 [] [] from rfl) rfl hrp632 (hrd631 _ (h.m.snOK (i := 1) rfl)) h629 (fun a w A633 c634 cs635 hq636 h => ?_)
              refine sMV h (fun a h => ?_)
              obtain ⟨x637, h638, hf⟩ := bsome hf
              obtain ⟨_, _, vs639, hrd640, hrp641⟩ := id (hsa2.mono ((((((le9.trans le42).trans le65).trans le607).trans le611).trans le615).trans le624))
              refine q_append (T := tyI) (S := S622) h rfl rfl rfl (by decide) Try.underlying23 zb_int rfl (by decide) rfl 0 rfl hq636 rfl hrp641 (hrd640 _ (h.m.snOK (i := 1) rfl)) h638 (fun a w A642 c643 cs644 hq645 h => ?_)
              obtain ⟨S646, le647, up648, hs649, h⟩ := q_freeze (T := tyI) h up623 hq645
              obtain ⟨x650, h651, hf⟩ := bsome hf
              have h := h.pick [1, 2, 3, 4, 0, 5] (by decide) rfl
              have hX := know_From_ok Fu (S0 := S646) x580.2.2 g43 A594 c595 cs596 g598 es599 cl600 g602 es603 cl604 (hq597.mono ((((le607.trans le611).trans le615).trans le624).trans le647)) (hm601.mono ((((le607.trans le611).trans le615).trans le624).trans le647)) (hm605.mono ((((le607.trans le611).trans le615).trans le624).trans le647)) A642 c643 x637 hs649 _ h651 _ (h.sub (Ls := [.box g43 52 ([.slice A594 x580.2.2.1.length c595, .map (some g598), .map (some g602)]), .row (.slice A594 x580.2.2.1.length c595) 46 3 x580.2.2.1.length cs596, .obj g598 (.map es599 cl600), .obj g602 (.map es603 cl604)]))
              refine q_callY (Ls := [.box g43 52 ([.slice A594 x580.2.2.1.length c595, .map (some g598), .map (some g602)]), .row (.slice A594 x580.2.2.1.length c595) 46 3 x580.2.2.1.length cs596, .obj g598 (.map es599 cl600), .obj g602 (.map es603 cl604)]) hX h up648 rfl rfl rfl (by decide) Try.func6 rfl rfl rfl (fun a w v L1 S653 hR le655 up654 h => ?_)
              rcases hR with hR | hR
              · obtain ⟨x656, rfl, hR⟩ := hR
                dsimp only at hf
                obtain ⟨A658, c659, cs660, g662, es663, cl664, g666, es667, cl668, rfl, rfl, hr657, hq661, hm665, hm669, _⟩ := hR
                refine sMV h (fun a h => ?_)
                refine s_x h rfl rfl (by decide) (x_ext h.k rfl rfl rfl) (fun a h => ?_)
                refine s_x h rfl rfl (by decide) (x_ext h.k rfl rfl rfl) (fun a h => ?_)
                refine sAV h (fun a h => ?_)
                refine sAV h (fun a h => ?_)
                refine l_end ?_
                refine wp_seq ?_
                refine c_rs ?_
                refine sMV h (fun a h => ?_)
                refine sMV h (fun a h => ?_)
                refine s_x h rfl rfl (by decide) (x_bin h.k rfl rfl rfl ib_neq) (fun a h => ?_)
                refine l_end ?_
                refine c_cond h rfl (fun hb => ?_) (fun hb => ?_)
                · rw [if_pos (of_decide_eq_true hb)] at hf
                  refine c_rs ?_
                  refine sAV h (fun a h => ?_)
                  refine l_end ?_
                  refine wp_ret ?_
                  refine e_thenR ?_
                  rw [← Option.some.inj hf]
                  exact r_ret1 h rfl (rv_tmp h rfl) ⟨_, [], _, rfl, ⟨rfl, rfl, trivial⟩, rfl, up654, (h.m.pick [4] _ (by decide) rfl)⟩
                · rw [if_neg (of_decide_eq_false hb)] at hf
                  refine wp_skip ?_
                  refine e_thenN ?_
                  refine wp_seq ?_
                  refine c_rs ?_
                  refine sMV h (fun a h => ?_)
                  refine s_x h rfl rfl (by decide) (x_bin h.k rfl rfl rfl ib_neq) (fun a h => ?_)
                  refine l_end ?_
                  refine c_cond h rfl (fun hb => ?_) (fun hb => ?_)
                  · rw [if_pos (of_decide_eq_true hb)] at hf
                    refine c_rs ?_
                    refine sMV h (fun a h => ?_)
                    refine s_x h rfl rfl (by decide) (x_eql_nn h.k rfl Try.underlying25 rfl rfl) (fun a h => ?_)
                    refine sMV h (fun a h => ?_)
                    refine q_grp h 3 (t := 95) 98 true rfl (fun hB2 => ?_) (fun hB2 => ?_) (fun a w h => ?_)
                    · refine g_yes h rfl rfl rfl rfl hB2 ?_
                      refine sMV h (fun a h => ?_)
                      refine g_yes h rfl rfl rfl rfl hB2 ?_
                      refine s_x h rfl rfl (by decide) (x_eql_nn h.k rfl Try.underlying25 rfl rfl) (fun a h => ?_)
                      refine s_x h rfl rfl (by decide) (x_pick (u' := undef) h.k rfl rfl (fun _ => rfl) (fun hh => absurd (hB2.symm.trans hh) (by decide))) (fun a h => ?_)
                      exact (h.mid 2 rfl).val (by first | rfl | (rw [hB2]; first | rfl | simp))
                    · exact absurd hB2 (by decide)
                    refine sAV h (fun a h => ?_)
                    refine l_end ?_
                    refine wp_ret ?_
                    refine e_thenR ?_
                    rw [← Option.some.inj hf]
                    exact r_ret1 h rfl (rv_tmp h rfl) ⟨_, [], _, rfl, ⟨rfl, rfl, trivial⟩, rfl, up654, (h.m.pick [4] _ (by decide) rfl)⟩
                  · rw [if_neg (of_decide_eq_false hb)] at hf
                    refine wp_skip ?_
                    refine e_thenN ?_
                    refine c_rs ?_
                    refine sMV h (fun a h => ?_)
                    refine sMV h (fun a h => ?_)
                    obtain ⟨x672, h673, hf⟩ := bsome hf
                    have hX := know_Set_List_nil0_ok Fu (S0 := snapAll _)  _ h673 _ h.startAll
                    refine q_callX hX h rfl rfl rfl (by decide) Try.func12 rfl rfl rfl (fun a w v L1 S1 hR hb1 h => ?_)
                    obtain ⟨A675, c676, cs677, rfl, rfl, hq678, _⟩ := hR
                    have hq679 := hq678.fl (S' := S653) fl_I
                    have h := h.pick [0, 5, 1, 2, 3, 4, 6] (by decide) rfl
                    obtain ⟨S680, le681, up682, hs683, h⟩ := q_freeze (T := tyI) h up654 hq679
                    obtain ⟨x684, h685, hf⟩ := bsome hf
                    have h := h.pick [1, 2, 3, 4, 0, 5] (by decide) rfl
                    have hX := know_From_ok Fu (S0 := S680) x656.2 g43 A658 c659 cs660 g662 es663 cl664 g666 es667 cl668 (hq661.mono le681) (hm665.mono le681) (hm669.mono le681) A675 c676 x672 hs683 _ h685 _ (h.sub (Ls := [.box g43 52 ([.slice A658 x656.2.1.length c659, .map (some g662), .map (some g666)]), .row (.slice A658 x656.2.1.length c659) 46 3 x656.2.1.length cs660, .obj g662 (.map es663 cl664), .obj g666 (.map es667 cl668)]))
                    refine q_callY (Ls := [.box g43 52 ([.slice A658 x656.2.1.length c659, .map (some g662), .map (some g666)]), .row (.slice A658 x656.2.1.length c659) 46 3 x656.2.1.length cs660, .obj g662 (.map es663 cl664), .obj g666 (.map es667 cl668)]) hX h up682 rfl rfl rfl (by decide) Try.func6 rfl rfl rfl (fun a w v L1 S687 hR le689 up688 h => ?_)
                    rcases hR with hR | hR
                    · obtain ⟨x690, rfl, hR⟩ := hR
                      dsimp only at hf
                      obtain ⟨A692, c693, cs694, g696, es697, cl698, g700, es701, cl702, rfl, rfl, hr691, hq695, hm699, hm703, _⟩ := hR
                      refine sMV h (fun a h => ?_)
                      refine s_x h rfl rfl (by decide) (x_ext h.k rfl rfl rfl) (fun a h => ?_)
                      refine s_x h rfl rfl (by decide) (x_ext h.k rfl rfl rfl) (fun a h => ?_)
                      refine sAV h (fun a h => ?_)
                      refine sAV h (fun a h => ?_)
                      refine l_end ?_
                      refine wp_seq ?_
                      refine c_rs ?_
                      refine sMV h (fun a h => ?_)
                      refine s_x h rfl rfl (by decide) (x_bin h.k rfl rfl rfl ib_neq) (fun a h => ?_)
                      refine sMV h (fun a h => ?_)
                      obtain ⟨z705, hz704, hf⟩ := bsome hf
                      refine q_grp h 7 (t := 108) 115 z705 rfl (fun hB2 => ?_) (fun hB2 => ?_) (fun a w h => ?_)
                      · refine g_no h rfl rfl rfl rfl hB2 rfl (by decide) (fun a h => ?_)
                        refine g_no h rfl rfl rfl rfl hB2 rfl (by decide) (fun a h => ?_)
                        refine g_no h rfl rfl rfl rfl hB2 rfl (by decide) (fun a h => ?_)
                        refine g_no h rfl rfl rfl rfl hB2 rfl (by decide) (fun a h => ?_)
                        refine g_no h rfl rfl rfl rfl hB2 rfl (by decide) (fun a h => ?_)
                        refine g_no h rfl rfl rfl rfl hB2 rfl (by decide) (fun a h => ?_)
                        rw [if_pos (of_decide_eq_true hB2)] at hz704
                        refine s_x h rfl rfl (by decide) (x_pick (u' := undef) h.k rfl rfl (fun _ => rfl) (fun hh => absurd (hB2.symm.trans hh) (by decide))) (fun a h => ?_)
                        exact (h.mid 6 rfl).val (by rw [Option.some.inj hz704])
                      · rw [if_neg (of_decide_eq_false hB2)] at hz704
                        refine g_yes h rfl rfl rfl rfl hB2 ?_
                        refine sMV h (fun a h => ?_)
                        refine g_yes h rfl rfl rfl rfl hB2 ?_
                        obtain ⟨x707, h708, hz704⟩ := bsome hz704
                        have hX := know_Set_List_nil0_ok Fu (S0 := snapAll _)  _ h708 _ h.startAll
                        refine q_callX hX h rfl rfl rfl (by decide) Try.func12 rfl rfl rfl (fun a w v L1 S1 hR hb1 h => ?_)
                        obtain ⟨A710, c711, cs712, rfl, rfl, hq713, _⟩ := hR
                        have hq714 := hq713.fl (S' := S687) fl_I
                        refine g_yes h rfl rfl rfl rfl hB2 ?_
                        refine sMV h (fun a h => ?_)
                        refine g_yes h rfl rfl rfl rfl hB2 ?_
                        obtain ⟨x715, h716, hz704⟩ := bsome hz704
                        have hX := know_Set_List_nil0_ok Fu (S0 := snapAll _)  _ h716 _ h.startAll
                        refine q_callX hX h rfl rfl rfl (by decide) Try.func12 rfl rfl rfl (fun a w v L1 S1 hR hb1 h => ?_)
                        obtain ⟨A718, c719, cs720, rfl, rfl, hq721, _⟩ := hR
                        have hq722 := hq721.fl (S' := S687) fl_I
                        refine g_yes h rfl rfl rfl rfl hB2 ?_
                        obtain ⟨x723, h724, hz704⟩ := bsome hz704
                        have hX := chatelaineref01_Ints_ok Fu (S0 := snapAll _) A710 c711 x707 (h.m.rowAll (i := 1) rfl (j := 6) rfl hq714) A718 c719 x715 (h.m.rowAll (i := 0) rfl (j := 6) rfl hq722) _ h724 _ h.startAll
                        refine q_callX hX h rfl rfl rfl (by decide) Try.func11 rfl rfl rfl (fun a w v L1 S1 hR hb1 h => ?_)
                        obtain ⟨rfl, rfl, _⟩ := hR
                        refine g_yes h rfl rfl rfl rfl hB2 ?_
                        refine s_x h rfl rfl (by decide) (x_not h.k rfl rfl) (fun a h => ?_)
                        refine s_x h rfl rfl (by decide) (x_pick (u' := undef) h.k rfl rfl (fun hh => absurd (hB2.symm.trans hh) (by decide)) (fun _ => rfl)) (fun a h => ?_)
                        have h := h.pick [2, 3, 4, 5, 6, 7] (by decide) rfl
                        exact (h.mid 6 rfl).val (by rw [Option.some.inj hz704])
                      refine sMV h (fun a h => ?_)
                      obtain ⟨z727, hz726, hf⟩ := bsome hf
                      refine q_grp h 7 (t := 116) 123 z727 rfl (fun hB10 => ?_) (fun hB10 => ?_) (fun a w h => ?_)
                      · refine g_no h rfl rfl rfl rfl hB10 rfl (by decide) (fun a h => ?_)
                        refine g_no h rfl rfl rfl rfl hB10 rfl (by decide) (fun a h => ?_)
                        refine g_no h rfl rfl rfl rfl hB10 rfl (by decide) (fun a h => ?_)
                        refine g_no h rfl rfl rfl rfl hB10 rfl (by decide) (fun a h => ?_)
                        refine g_no h rfl rfl rfl rfl hB10 rfl (by decide) (fun a h => ?_)
                        refine g_no h rfl rfl rfl rfl hB10 rfl (by decide) (fun a h => ?_)
                        rw [if_pos hB10] at hz726
                        refine s_x h rfl rfl (by decide) (x_pick (u' := undef) h.k rfl rfl (fun _ => rfl) (fun hh => absurd (hB10.symm.trans hh) (by decide))) (fun a h => ?_)
                        exact (h.mid 6 rfl).val (by rw [Option.some.inj hz726])
                      · rw [if_neg (by rw [hB10]; decide)] at hz726
                        refine g_yes h rfl rfl rfl rfl hB10 ?_
                        refine sMV h (fun a h => ?_)
                        refine g_yes h rfl rfl rfl rfl hB10 ?_
                        obtain ⟨x729, h730, hz726⟩ := bsome hz726
                        have hX := know_Set_List_nil0_ok Fu (S0 := snapAll _)  _ h730 _ h.startAll
                        refine q_callX hX h rfl rfl rfl (by decide) Try.func12 rfl rfl rfl (fun a w v L1 S1 hR hb1 h => ?_)
                        obtain ⟨A732, c733, cs734, rfl, rfl, hq735, _⟩ := hR
                        have hq736 := hq735.fl (S' := S687) fl_I
                        refine g_yes h rfl rfl rfl rfl hB10 ?_
                        refine sMV h (fun a h => ?_)
                        refine g_yes h rfl rfl rfl rfl hB10 ?_
                        obtain ⟨x737, h738, hz726⟩ := bsome hz726
                        have hX := know_Set_List_nil0_ok Fu (S0 := snapAll _)  _ h738 _ h.startAll
                        refine q_callX hX h rfl rfl rfl (by decide) Try.func12 rfl rfl rfl (fun a w v L1 S1 hR hb1 h => ?_)
                        obtain ⟨A740, c741, cs742, rfl, rfl, hq743, _⟩ := hR
                        have hq744 := hq743.fl (S' := S687) fl_I
                        refine g_yes h rfl rfl rfl rfl hB10 ?_
                        obtain ⟨x745, h746, hz726⟩ := bsome hz726
                        have hX := chatelaineref01_Ints_ok Fu (S0 := snapAll _) A732 c733 x729 (h.m.rowAll (i := 1) rfl (j := 6) rfl hq736) A740 c741 x737 (h.m.rowAll (i := 0) rfl (j := 6) rfl hq744) _ h746 _ h.startAll
                        refine q_callX hX h rfl rfl rfl (by decide) Try.func11 rfl rfl rfl (fun a w v L1 S1 hR hb1 h => ?_)
                        obtain ⟨rfl, rfl, _⟩ := hR
                        refine g_yes h rfl rfl rfl rfl hB10 ?_
                        refine s_x h rfl rfl (by decide) (x_not h.k rfl rfl) (fun a h => ?_)
                        refine s_x h rfl rfl (by decide) (x_pick (u' := undef) h.k rfl rfl (fun hh => absurd (hB10.symm.trans hh) (by decide)) (fun _ => rfl)) (fun a h => ?_)
                        have h := h.pick [2, 3, 4, 5, 6, 7] (by decide) rfl
                        exact (h.mid 6 rfl).val (by rw [Option.some.inj hz726])
                      refine l_end ?_
                      refine c_cond h rfl (fun hb => ?_) (fun hb => ?_)
                      · rw [if_pos hb] at hf
                        refine c_rs ?_
                        refine sAV h (fun a h => ?_)
                        refine l_end ?_
                        refine wp_ret ?_
                        refine e_thenR ?_
                        rw [← Option.some.inj hf]
                        exact r_ret1 h rfl (rv_tmp h rfl) ⟨_, [], _, rfl, ⟨rfl, rfl, trivial⟩, rfl, up688, (h.m.pick [4] _ (by decide) rfl)⟩
                      · rw [if_neg (by rw [hb]; decide)] at hf
                        refine wp_skip ?_
                        refine e_thenN ?_
                        refine wp_seq ?_
                        refine c_rs ?_
                        refine sMV h (fun a h => ?_)
                        obtain ⟨x748, h749, hf⟩ := bsome hf
                        have hX := know_Set_List_ok Fu (S0 := snapAll _) g581 (x580.1.1, x580.1.2.1, x580.1.2.2.1, x580.1.2.2.2) ((hp618.mono ((((le624.trans le647).trans le655).trans le681).trans le689)).mono (h.m.leAll (i := 4) rfl)) _ h749 _ h.startAll
                        refine q_callX hX h rfl rfl rfl (by decide) Try.func12 rfl rfl rfl (fun a w v L1 S1 hR hb1 h => ?_)
                        obtain ⟨A751, c752, cs753, rfl, rfl, hq754, _⟩ := hR
                        have hq755 := hq754.fl (S' := S687) fl_I
                        have hr756 : r64 (x748.length : Int) := len_r (h.m.rowLen (i := 0) rfl)
                        refine s_x h rfl rfl (by decide) (x_len h.k rfl Try.underlying23 rfl) (fun a h => ?_)
                        refine sMV h (fun a h => ?_)
                        refine l_end ?_
                        obtain ⟨o757, hl758, hf⟩ := bsome hf
                        refine c_fin (fun a w => (.inr ()) = o757 ∧ St 136 w0 (ownL ([] ++ [.sn S0])) [] [.sn S687] a w) ?_ ?_
                        · refine wp_block ?_
                          have h := h.pick [0, 5] (by decide) rfl
                          refine c_loop (fun m762 a w => ∃ (x759 : Int), chatelainelaw37_KnowMore_l4 Fu x748 m762 x759 = some o757 ∧ r64 x759 ∧ St 136 w0 (ownL ([] ++ [.sn S0])) [(14, .pointer none), (125, .slice A751 x748.length c752), (126, .int .i64 (x748.length : Int)), (127, .int .i64 x759)] [.row (.slice A751 x748.length c752) 3 1 x748.length cs753, .sn S687] a w) Fu ⟨0, hl758, (show r64 0 from ⟨by decide, by decide⟩), h.has (by exact ⟨rfl, rfl, rfl, rfl, trivial⟩)⟩ (fun m762 a w hI => ?_)
                          obtain ⟨x759, hl761, hr760, h⟩ := hI
                          obtain _ | m762 := m762
                          · rw [chatelainelaw37_KnowMore_l4] at hl761; cases hl761
                          rw [chatelainelaw37_KnowMore_l4] at hl761
                          refine c_rs ?_
                          refine s_x h rfl rfl (by decide) (x_bin h.k rfl rfl rfl ib_lss) (fun a h => ?_)
                          refine l_end ?_
                          refine c_cs h rfl (fun hb => ?_) (fun hb => ?_)
                          · rw [if_pos (of_decide_eq_true hb)] at hl761
                            refine wp_skip ?_
                            refine e_thenN ?_
                            refine wp_seq ?_
                            refine wp_block ?_
                            refine c_rs ?_
                            obtain ⟨m763, h764, hl761⟩ := bsome hl761
                            obtain ⟨hi765, hm766⟩ := ix_some h764
                            obtain ⟨g768, hA767⟩ := h.m.rowHead (i := 0) rfl (Nat.lt_of_le_of_lt (Nat.zero_le _) hm766)
                            refine s_x h rfl rfl (by decide) (x_iaddrE h.k rfl Try.underlying23 sz_int hA767 rfl rfl hi765 hm766) (fun a h => ?_)
                            obtain ⟨x769, h770, hl761⟩ := bsome hl761
                            obtain ⟨u771, hv772, hu773⟩ := (hq755).cell rfl h770
                            obtain ⟨e775, hr774⟩ := hu773
                            cases e775
                            refine s_x h rfl rfl (by decide) (x_ld h.k rfl Try.underlying3 rfl rfl (h.m.cellRowE (i := 0) rfl hA767 _ (by rw [Nat.mul_one]; exact hv772))) (fun a h => ?_)
                            refine sAV h (fun a h => ?_)
                            refine l_end ?_
                            refine c_rs ?_
                            refine sMV h (fun a h => ?_)
                            refine sMV h (fun a h => ?_)
                            obtain ⟨x776, h777, hl761⟩ := bsome hl761
                            have hX := know_Set_Has_nil0_ok Fu (S0 := snapAll _) x769 hr774 _ h777 _ h.startAll
                            refine q_callX hX h rfl rfl rfl (by decide) Try.func10 rfl rfl rfl (fun a w v L1 S1 hR hb1 h => ?_)
                            obtain ⟨rfl, rfl, _⟩ := hR
                            refine s_x h rfl rfl (by decide) (x_not h.k rfl rfl) (fun a h => ?_)
                            refine l_end ?_
                            refine c_cond h rfl (fun hb => ?_) (fun hb => ?_)
                            · rw [if_pos hb] at hl761
                              refine c_rs ?_
                              refine sAV h (fun a h => ?_)
                              refine l_end ?_
                              refine wp_ret ?_
                              refine e_blkR ?_
                              refine e_thenR ?_
                              refine e_thenR ?_
                              refine e_blkR ?_
                              refine e_thenR ?_
                              cases hl761
                              try dsimp only at hf
                              refine e_thenR ?_
                              rw [← Option.some.inj hf]
                              exact r_ret1 h rfl (rv_tmp h rfl) ⟨_, [], _, rfl, ⟨rfl, rfl, trivial⟩, rfl, up688, (h.m.pick [1] _ (by decide) rfl)⟩
                            · rw [if_neg (by rw [hb]; decide)] at hl761
                              refine wp_skip ?_
                              refine e_blkN ?_
                              refine e_thenN ?_
                              refine c_r ?_
                              refine s_x h rfl rfl (by decide) (x_bin h.k rfl rfl rfl (ib_add rfl)) (fun a h => ?_)
                              refine sMV h (fun a h => ?_)
                              refine l_nil ?_
                              exact e_thenN ⟨m762, Nat.lt_succ_self _, w64 (x759 + 1), hl761, (w64_r _), h.has (by exact ⟨rfl, rfl, rfl, rfl, trivial⟩)⟩
                          · rw [if_neg (of_decide_eq_false hb)] at hl761
                            refine wp_exit ?_
                            refine e_thenX ?_
                            refine e_thenX ?_
                            refine e_blkX ?_
                            refine e_thenN ?_
                            have h := h.pick [1] (by decide) rfl
                            exact ⟨(Option.some.inj hl761), h.has trivial⟩
                        · rintro a w ⟨rfl, h⟩
                          try dsimp only at hf
                          refine e_thenN ?_
                          refine c_rs ?_
                          refine sAV h (fun a h => ?_)
                          refine l_end ?_
                          refine wp_ret ?_
                          rw [← Option.some.inj hf]
                          exact r_ret1 h rfl (rv_tmp h rfl) ⟨_, [], _, rfl, ⟨rfl, rfl, trivial⟩, rfl, up688, h.m⟩
                    · obtain ⟨x780, rfl, hR⟩ := hR
                      dsimp only at hf
                      obtain ⟨g781, A782, c783, A785, c786, cs787, A789, c790, cs791, A794, c795, cs796, g798, es799, cl800, g802, es803, cl804, rfl, rfl, hs784, hq788, hq792, hr793, hq797, hm801, hm805, _⟩ := hR
                      refine sMV h (fun a h => ?_)
                      refine s_x h rfl rfl (by decide) (x_ext h.k rfl rfl rfl) (fun a h => ?_)
                      refine s_x h rfl rfl (by decide) (x_ext h.k rfl rfl rfl) (fun a h => ?_)
                      refine sAV h (fun a h => ?_)
                      refine sAV h (fun a h => ?_)
                      refine l_end ?_
                      refine wp_seq ?_
                      refine c_rs ?_
                      refine sMV h (fun a h => ?_)
                      refine s_x h rfl rfl (by decide) (x_bin h.k rfl rfl rfl ib_neq) (fun a h => ?_)
                      refine sMV h (fun a h => ?_)
                      obtain ⟨z807, hz806, hf⟩ := bsome hf
                      refine q_grp h 7 (t := 108) 115 z807 rfl (fun hB2 => ?_) (fun hB2 => ?_) (fun a w h => ?_)
                      · refine g_no h rfl rfl rfl rfl hB2 rfl (by decide) (fun a h => ?_)
                        refine g_no h rfl rfl rfl rfl hB2 rfl (by decide) (fun a h => ?_)
                        refine g_no h rfl rfl rfl rfl hB2 rfl (by decide) (fun a h => ?_)
                        refine g_no h rfl rfl rfl rfl hB2 rfl (by decide) (fun a h => ?_)
                        refine g_no h rfl rfl rfl rfl hB2 rfl (by decide) (fun a h => ?_)
                        refine g_no h rfl rfl rfl rfl hB2 rfl (by decide) (fun a h => ?_)
                        rw [if_pos (of_decide_eq_true hB2)] at hz806
                        refine s_x h rfl rfl (by decide) (x_pick (u' := undef) h.k rfl rfl (fun _ => rfl) (fun hh => absurd (hB2.symm.trans hh) (by decide))) (fun a h => ?_)
                        exact (h.mid 6 rfl).val (by rw [Option.some.inj hz806])
                      · rw [if_neg (of_decide_eq_false hB2)] at hz806
                        refine g_yes h rfl rfl rfl rfl hB2 ?_
                        refine sMV h (fun a h => ?_)
                        refine g_yes h rfl rfl rfl rfl hB2 ?_
                        obtain ⟨x809, h810, hz806⟩ := bsome hz806
                        have hX := know_Set_List_nil0_ok Fu (S0 := snapAll _)  _ h810 _ h.startAll
                        refine q_callX hX h rfl rfl rfl (by decide) Try.func12 rfl rfl rfl (fun a w v L1 S1 hR hb1 h => ?_)
                        obtain ⟨A812, c813, cs814, rfl, rfl, hq815, _⟩ := hR
                        have hq816 := hq815.fl (S' := S687) fl_I
                        refine g_yes h rfl rfl rfl rfl hB2 ?_
                        refine sMV h (fun a h => ?_)
                        refine g_yes h rfl rfl rfl rfl hB2 ?_
                        obtain ⟨x817, h818, hz806⟩ := bsome hz806
                        have hX := know_Set_List_nil0_ok Fu (S0 := snapAll _)  _ h818 _ h.startAll
                        refine q_callX hX h rfl rfl rfl (by decide) Try.func12 rfl rfl rfl (fun a w v L1 S1 hR hb1 h => ?_)
                        obtain ⟨A820, c821, cs822, rfl, rfl, hq823, _⟩ := hR
                        have hq824 := hq823.fl (S' := S687) fl_I
                        refine g_yes h rfl rfl rfl rfl hB2 ?_
                        obtain ⟨x825, h826, hz806⟩ := bsome hz806
                        have hX := chatelaineref01_Ints_ok Fu (S0 := snapAll _) A812 c813 x809 (h.m.rowAll (i := 1) rfl (j := 9) rfl hq816) A820 c821 x817 (h.m.rowAll (i := 0) rfl (j := 9) rfl hq824) _ h826 _ h.startAll
                        refine q_callX hX h rfl rfl rfl (by decide) Try.func11 rfl rfl rfl (fun a w v L1 S1 hR hb1 h => ?_)
                        obtain ⟨rfl, rfl, _⟩ := hR
                        refine g_yes h rfl rfl rfl rfl hB2 ?_
                        refine s_x h rfl rfl (by decide) (x_not h.k rfl rfl) (fun a h => ?_)
                        refine s_x h rfl rfl (by decide) (x_pick (u' := undef) h.k rfl rfl (fun hh => absurd (hB2.symm.trans hh) (by decide)) (fun _ => rfl)) (fun a h => ?_)
                        have h := h.pick [2, 3, 4, 5, 6, 7, 8, 9, 10] (by decide) rfl
                        exact (h.mid 6 rfl).val (by rw [Option.some.inj hz806])
                      refine sMV h (fun a h => ?_)
                      obtain ⟨z829, hz828, hf⟩ := bsome hf
                      refine q_grp h 7 (t := 116) 123 z829 rfl (fun hB10 => ?_) (fun hB10 => ?_) (fun a w h => ?_)
                      · refine g_no h rfl rfl rfl rfl hB10 rfl (by decide) (fun a h => ?_)
                        refine g_no h rfl rfl rfl rfl hB10 rfl (by decide) (fun a h => ?_)
                        refine g_no h rfl rfl rfl rfl hB10 rfl (by decide) (fun a h => ?_)
                        refine g_no h rfl rfl rfl rfl hB10 rfl (by decide) (fun a h => ?_)
                        refine g_no h rfl rfl rfl rfl hB10 rfl (by decide) (fun a h => ?_)
                        refine g_no h rfl rfl rfl rfl hB10 rfl (by decide) (fun a h => ?_)
                        rw [if_pos hB10] at hz828
                        refine s_x h rfl rfl (by decide) (x_pick (u' := undef) h.k rfl rfl (fun _ => rfl) (fun hh => absurd (hB10.symm.trans hh) (by decide))) (fun a h => ?_)
                        exact (h.mid 6 rfl).val (by rw [Option.some.inj hz828])
                      · rw [if_neg (by rw [hB10]; decide)] at hz828
                        refine g_yes h rfl rfl rfl rfl hB10 ?_
                        refine sMV h (fun a h => ?_)
                        refine g_yes h rfl rfl rfl rfl hB10 ?_
                        obtain ⟨x831, h832, hz828⟩ := bsome hz828
                        have hX := know_Set_List_ok Fu (S0 := snapAll _) g781 x780.1 ⟨[.slice A782 x780.1.1.length c783, .slice A785 x780.1.2.1.length c786, .slice A789 x780.1.2.2.1.length c790, .bool x780.1.2.2.2], h.m.boxAll (i := 0) rfl, ⟨[.slice A782 x780.1.1.length c783], [.slice A785 x780.1.2.1.length c786, .slice A789 x780.1.2.2.1.length c790, .bool x780.1.2.2.2], rfl, ⟨_, _, rfl, (hs784).mono (h.m.leAll (i := 7) rfl)⟩, ⟨[.slice A785 x780.1.2.1.length c786], [.slice A789 x780.1.2.2.1.length c790, .bool x780.1.2.2.2], rfl, ⟨_, _, rfl, h.m.rowAll (i := 1) rfl (j := 7) rfl hq788⟩, ⟨[.slice A789 x780.1.2.2.1.length c790], [.bool x780.1.2.2.2], rfl, ⟨_, _, rfl, h.m.rowAll (i := 2) rfl (j := 7) rfl hq792⟩, rfl⟩⟩⟩⟩ _ h832 _ h.startAll
                        refine q_callX hX h rfl rfl rfl (by decide) Try.func12 rfl rfl rfl (fun a w v L1 S1 hR hb1 h => ?_)
                        obtain ⟨A834, c835, cs836, rfl, rfl, hq837, _⟩ := hR
                        have hq838 := hq837.fl (S' := S687) fl_I
                        refine g_yes h rfl rfl rfl rfl hB10 ?_
                        refine sMV h (fun a h => ?_)
                        refine g_yes h rfl rfl rfl rfl hB10 ?_
                        obtain ⟨x839, h840, hz828⟩ := bsome hz828
                        have hX := know_Set_List_nil0_ok Fu (S0 := snapAll _)  _ h840 _ h.startAll
                        refine q_callX hX h rfl rfl rfl (by decide) Try.func12 rfl rfl rfl (fun a w v L1 S1 hR hb1 h => ?_)
                        obtain ⟨A842, c843, cs844, rfl, rfl, hq845, _⟩ := hR
                        have hq846 := hq845.fl (S' := S687) fl_I
                        refine g_yes h rfl rfl rfl rfl hB10 ?_
                        obtain ⟨x847, h848, hz828⟩ := bsome hz828
                        have hX := chatelaineref01_Ints_ok Fu (S0 := snapAll _) A834 c835 x831 (h.m.rowAll (i := 1) rfl (j := 9) rfl hq838) A842 c843 x839 (h.m.rowAll (i := 0) rfl (j := 9) rfl hq846) _ h848 _ h.startAll
                        refine q_callX hX h rfl rfl rfl (by decide) Try.func11 rfl rfl rfl (fun a w v L1 S1 hR hb1 h => ?_)
                        obtain ⟨rfl, rfl, _⟩ := hR
                        refine g_yes h rfl rfl rfl rfl hB10 ?_
                        refine s_x h rfl rfl (by decide) (x_not h.k rfl rfl) (fun a h => ?_)
                        refine s_x h rfl rfl (by decide) (x_pick (u' := undef) h.k rfl rfl (fun hh => absurd (hB10.symm.trans hh) (by decide)) (fun _ => rfl)) (fun a h => ?_)
                        have h := h.pick [2, 3, 4, 5, 6, 7, 8, 9, 10] (by decide) rfl
                        exact (h.mid 6 rfl).val (by rw [Option.some.inj hz828])
                      refine l_end ?_
                      refine c_cond h rfl (fun hb => ?_) (fun hb => ?_)
                      · rw [if_pos hb] at hf
                        refine c_rs ?_
                        refine sAV h (fun a h => ?_)
                        refine l_end ?_
                        refine wp_ret ?_
                        refine e_thenR ?_
                        rw [← Option.some.inj hf]
                        exact r_ret1 h rfl (rv_tmp h rfl) ⟨_, [], _, rfl, ⟨rfl, rfl, trivial⟩, rfl, up688, (h.m.pick [7] _ (by decide) rfl)⟩
                      · rw [if_neg (by rw [hb]; decide)] at hf
                        refine wp_skip ?_
                        refine e_thenN ?_
                        refine wp_seq ?_
                        refine c_rs ?_
                        refine sMV h (fun a h => ?_)
                        obtain ⟨x850, h851, hf⟩ := bsome hf
                        have hX := know_Set_List_ok Fu (S0 := snapAll _) g581 (x580.1.1, x580.1.2.1, x580.1.2.2.1, x580.1.2.2.2) ((hp618.mono ((((le624.trans le647).trans le655).trans le681).trans le689)).mono (h.m.leAll (i := 7) rfl)) _ h851 _ h.startAll
                        refine q_callX hX h rfl rfl rfl (by decide) Try.func12 rfl rfl rfl (fun a w v L1 S1 hR hb1 h => ?_)
                        obtain ⟨A853, c854, cs855, rfl, rfl, hq856, _⟩ := hR
                        have hq857 := hq856.fl (S' := S687) fl_I
                        have hr858 : r64 (x850.length : Int) := len_r (h.m.rowLen (i := 0) rfl)
                        refine s_x h rfl rfl (by decide) (x_len h.k rfl Try.underlying23 rfl) (fun a h => ?_)
                        refine sMV h (fun a h => ?_)
                        refine l_end ?_
                        obtain ⟨o859, hl860, hf⟩ := bsome hf
                        refine c_fin (fun a w => (.inr ()) = o859 ∧ St 136 w0 (ownL ([] ++ [.sn S0])) [] [.sn S687] a w) ?_ ?_
                        · refine wp_block ?_
                          have h := h.pick [0, 8] (by decide) rfl
                          refine c_loop (fun m864 a w => ∃ (x861 : Int), chatelainelaw37_KnowMore_l5 Fu x850 m864 x861 = some o859 ∧ r64 x861 ∧ St 136 w0 (ownL ([] ++ [.sn S0])) [(14, .pointer none), (125, .slice A853 x850.length c854), (126, .int .i64 (x850.length : Int)), (127, .int .i64 x861)] [.row (.slice A853 x850.length c854) 3 1 x850.length cs855, .sn S687] a w) Fu ⟨0, hl860, (show r64 0 from ⟨by decide, by decide⟩), h.has (by exact ⟨rfl, rfl, rfl, rfl, trivial⟩)⟩ (fun m864 a w hI => ?_)
                          obtain ⟨x861, hl863, hr862, h⟩ := hI
                          obtain _ | m864 := m864
                          · rw [chatelainelaw37_KnowMore_l5] at hl863; cases hl863
                          rw [chatelainelaw37_KnowMore_l5] at hl863
                          refine c_rs ?_
                          refine s_x h rfl rfl (by decide) (x_bin h.k rfl rfl rfl ib_lss) (fun a h => ?_)
                          refine l_end ?_
                          refine c_cs h rfl (fun hb => ?_) (fun hb => ?_)
                          · rw [if_pos (of_decide_eq_true hb)] at hl863
                            refine wp_skip ?_
                            refine e_thenN ?_
                            refine wp_seq ?_
                            refine wp_block ?_
                            refine c_rs ?_
                            obtain ⟨m865, h866, hl863⟩ := bsome hl863
                            obtain ⟨hi867, hm868⟩ := ix_some h866
                            obtain ⟨g870, hA869⟩ := h.m.rowHead (i := 0) rfl (Nat.lt_of_le_of_lt (Nat.zero_le _) hm868)
                            refine s_x h rfl rfl (by decide) (x_iaddrE h.k rfl Try.underlying23 sz_int hA869 rfl rfl hi867 hm868) (fun a h => ?_)
                            obtain ⟨x871, h872, hl863⟩ := bsome hl863
                            obtain ⟨u873, hv874, hu875⟩ := (hq857).cell rfl h872
                            obtain ⟨e877, hr876⟩ := hu875
                            cases e877
                            refine s_x h rfl rfl (by decide) (x_ld h.k rfl Try.underlying3 rfl rfl (h.m.cellRowE (i := 0) rfl hA869 _ (by rw [Nat.mul_one]; exact hv874))) (fun a h => ?_)
                            refine sAV h (fun a h => ?_)
                            refine l_end ?_
                            refine c_rs ?_
                            refine sMV h (fun a h => ?_)
                            refine sMV h (fun a h => ?_)
                            obtain ⟨x878, h879, hl863⟩ := bsome hl863
                            have hX := know_Set_Has_nil0_ok Fu (S0 := snapAll _) x871 hr876 _ h879 _ h.startAll
                            refine q_callX hX h rfl rfl rfl (by decide) Try.func10 rfl rfl rfl (fun a w v L1 S1 hR hb1 h => ?_)
                            obtain ⟨rfl, rfl, _⟩ := hR
                            refine s_x h rfl rfl (by decide) (x_not h.k rfl rfl) (fun a h => ?_)
                            refine l_end ?_
                            refine c_cond h rfl (fun hb => ?_) (fun hb => ?_)
                            · rw [if_pos hb] at hl863
                              refine c_rs ?_
                              refine sAV h (fun a h => ?_)
                              refine l_end ?_
                              refine wp_ret ?_
                              refine e_blkR ?_
                              refine e_thenR ?_
                              refine e_thenR ?_
                              refine e_blkR ?_
                              refine e_thenR ?_
                              cases hl863
                              try dsimp only at hf
                              refine e_thenR ?_
                              rw [← Option.some.inj hf]
                              exact r_ret1 h rfl (rv_tmp h rfl) ⟨_, [], _, rfl, ⟨rfl, rfl, trivial⟩, rfl, up688, (h.m.pick [1] _ (by decide) rfl)⟩
                            · rw [if_neg (by rw [hb]; decide)] at hl863
                              refine wp_skip ?_
                              refine e_blkN ?_
                              refine e_thenN ?_
                              refine c_r ?_
                              refine s_x h rfl rfl (by decide) (x_bin h.k rfl rfl rfl (ib_add rfl)) (fun a h => ?_)
                              refine sMV h (fun a h => ?_)
                              refine l_nil ?_
                              exact e_thenN ⟨m864, Nat.lt_succ_self _, w64 (x861 + 1), hl863, (w64_r _), h.has (by exact ⟨rfl, rfl, rfl, rfl, trivial⟩)⟩
                          · rw [if_neg (of_decide_eq_false hb)] at hl863
                            refine wp_exit ?_
                            refine e_thenX ?_
                            refine e_thenX ?_
                            refine e_blkX ?_
                            refine e_thenN ?_
                            have h := h.pick [1] (by decide) rfl
                            exact ⟨(Option.some.inj hl863), h.has trivial⟩
                        · rintro a w ⟨rfl, h⟩
                          try dsimp only at hf
                          refine e_thenN ?_
                          refine c_rs ?_
                          refine sAV h (fun a h => ?_)
                          refine l_end ?_
                          refine wp_ret ?_
                          rw [← Option.some.inj hf]
                          exact r_ret1 h rfl (rv_tmp h rfl) ⟨_, [], _, rfl, ⟨rfl, rfl, trivial⟩, rfl, up688, h.m⟩
              · obtain ⟨x882, rfl, hR⟩ := hR
                dsimp only at hf
                obtain ⟨g883, A884, c885, A887, c888, cs889, A891, c892, cs893, A896, c897, cs898, g900, es901, cl902, g904, es905, cl906, rfl, rfl, hs886, hq890, hq894, hr895, hq899, hm903, hm907, _⟩ := hR
                refine sMV h (fun a h => ?_)
                refine s_x h rfl rfl (by decide) (x_ext h.k rfl rfl rfl) (fun a h => ?_)
                refine s_x h rfl rfl (by decide) (x_ext h.k rfl rfl rfl) (fun a h => ?_)
                refine sAV h (fun a h => ?_)
                refine sAV h (fun a h => ?_)
                refine l_end ?_
                refine wp_seq ?_
                refine c_rs ?_
                refine sMV h (fun a h => ?_)
                refine sMV h (fun a h => ?_)
                refine s_x h rfl rfl (by decide) (x_bin h.k rfl rfl rfl ib_neq) (fun a h => ?_)
                refine l_end ?_
                refine c_cond h rfl (fun hb => ?_) (fun hb => ?_)
                · rw [if_pos (of_decide_eq_true hb)] at hf
                  refine c_rs ?_
                  refine sAV h (fun a h => ?_)
                  refine l_end ?_
                  refine wp_ret ?_
                  refine e_thenR ?_
                  rw [← Option.some.inj hf]
                  exact r_ret1 h rfl (rv_tmp h rfl) ⟨_, [], _, rfl, ⟨rfl, rfl, trivial⟩, rfl, up654, (h.m.pick [7] _ (by decide) rfl)⟩
                · rw [if_neg (of_decide_eq_false hb)] at hf
                  refine wp_skip ?_
                  refine e_thenN ?_
                  refine wp_seq ?_
                  refine c_rs ?_
                  refine sMV h (fun a h => ?_)
                  refine s_x h rfl rfl (by decide) (x_bin h.k rfl rfl rfl ib_neq) (fun a h => ?_)
                  refine l_end ?_
                  refine c_cond h rfl (fun hb => ?_) (fun hb => ?_)
                  · rw [if_pos (of_decide_eq_true hb)] at hf
                    refine c_rs ?_
                    refine sMV h (fun a h => ?_)
                    refine s_x h rfl rfl (by decide) (x_eql_nn h.k rfl Try.underlying25 rfl rfl) (fun a h => ?_)
                    refine sMV h (fun a h => ?_)
                    refine q_grp h 3 (t := 95) 98 false rfl (fun hB2 => ?_) (fun hB2 => ?_) (fun a w h => ?_)
                    · refine g_yes h rfl rfl rfl rfl hB2 ?_
                      refine sMV h (fun a h => ?_)
                      refine g_yes h rfl rfl rfl rfl hB2 ?_
                      refine s_x h rfl rfl (by decide) (x_eql_pn h.k rfl Try.underlying25 rfl rfl) (fun a h => ?_)
                      refine s_x h rfl rfl (by decide) (x_pick (u' := undef) h.k rfl rfl (fun _ => rfl) (fun hh => absurd (hB2.symm.trans hh) (by decide))) (fun a h => ?_)
                      exact (h.mid 2 rfl).val (by first | rfl | (rw [hB2]; first | rfl | simp))
                    · exact absurd hB2 (by decide)
                    refine sAV h (fun a h => ?_)
                    refine l_end ?_
                    refine wp_ret ?_
                    refine e_thenR ?_
                    rw [← Option.some.inj hf]
                    exact r_ret1 h rfl (rv_tmp h rfl) ⟨_, [], _, rfl, ⟨rfl, rfl, trivial⟩, rfl, up654, (h.m.pick [7] _ (by decide) rfl)⟩
                  · rw [if_neg (of_decide_eq_false hb)] at hf
                    refine wp_skip ?_
                    refine e_thenN ?_
                    refine c_rs ?_
                    refine sMV h (fun a h => ?_)
                    refine sMV h (fun a h => ?_)
                    obtain ⟨x910, h911, hf⟩ := bsome hf
                    have hX := know_Set_List_nil0_ok Fu (S0 := snapAll _)  _ h911 _ h.startAll
                    refine q_callX hX h rfl rfl rfl (by decide) Try.func12 rfl rfl rfl (fun a w v L1 S1 hR hb1 h => ?_)
                    obtain ⟨A913, c914, cs915, rfl, rfl, hq916, _⟩ := hR
                    have hq917 := hq916.fl (S' := S653) fl_I
                    have h := h.pick [0, 8, 1, 2, 3, 4, 5, 6, 7, 9] (by decide) rfl
                    obtain ⟨S918, le919, up920, hs921, h⟩ := q_freeze (T := tyI) h up654 hq917
                    obtain ⟨x922, h923, hf⟩ := bsome hf
                    have h := h.pick [4, 5, 6, 7, 0, 1, 2, 3, 8] (by decide) rfl
                    have hX := know_From_ok Fu (S0 := S918) x882.2.2 g43 A896 c897 cs898 g900 es901 cl902 g904 es905 cl906 (hq899.mono le919) (hm903.mono le919) (hm907.mono le919) A913 c914 x910 hs921 _ h923 _ (h.sub (Ls := [.box g43 52 ([.slice A896 x882.2.2.1.length c897, .map (some g900), .map (some g904)]), .row (.slice A896 x882.2.2.1.length c897) 46 3 x882.2.2.1.length cs898, .obj g900 (.map es901 cl902), .obj g904 (.map es905 cl906)]))
                    refine q_callY (Ls := [.box g43 52 ([.slice A896 x882.2.2.1.length c897, .map (some g900), .map (some g904)]), .row (.slice A896 x882.2.2.1.length c897) 46 3 x882.2.2.1.length cs898, .obj g900 (.map es901 cl902), .obj g904 (.map es905 cl906)]) hX h up920 rfl rfl rfl (by decide) Try.func6 rfl rfl rfl (fun a w v L1 S925 hR le927 up926 h => ?_)
                    rcases hR with hR | hR
                    · obtain ⟨x928, rfl, hR⟩ := hR
                      dsimp only at hf
                      obtain ⟨A930, c931, cs932, g934, es935, cl936, g938, es939, cl940, rfl, rfl, hr929, hq933, hm937, hm941, _⟩ := hR
                      refine sMV h (fun a h => ?_)
                      refine s_x h rfl rfl (by decide) (x_ext h.k rfl rfl rfl) (fun a h => ?_)
                      refine s_x h rfl rfl (by decide) (x_ext h.k rfl rfl rfl) (fun a h => ?_)
                      refine sAV h (fun a h => ?_)
                      refine sAV h (fun a h => ?_)
                      refine l_end ?_
                      refine wp_seq ?_
                      refine c_rs ?_
                      refine sMV h (fun a h => ?_)
                      refine s_x h rfl rfl (by decide) (x_bin h.k rfl rfl rfl ib_neq) (fun a h => ?_)
                      refine sMV h (fun a h => ?_)
                      obtain ⟨z943, hz942, hf⟩ := bsome hf
                      refine q_grp h 7 (t := 108) 115 z943 rfl (fun hB2 => ?_) (fun hB2 => ?_) (fun a w h => ?_)
                      · refine g_no h rfl rfl rfl rfl hB2 rfl (by decide) (fun a h => ?_)
                        refine g_no h rfl rfl rfl rfl hB2 rfl (by decide) (fun a h => ?_)
                        refine g_no h rfl rfl rfl rfl hB2 rfl (by decide) (fun a h => ?_)
                        refine g_no h rfl rfl rfl rfl hB2 rfl (by decide) (fun a h => ?_)
                        refine g_no h rfl rfl rfl rfl hB2 rfl (by decide) (fun a h => ?_)
                        refine g_no h rfl rfl rfl rfl hB2 rfl (by decide) (fun a h => ?_)
                        rw [if_pos (of_decide_eq_true hB2)] at hz942
                        refine s_x h rfl rfl (by decide) (x_pick (u' := undef) h.k rfl rfl (fun _ => rfl) (fun hh => absurd (hB2.symm.trans hh) (by decide))) (fun a h => ?_)
                        exact (h.mid 6 rfl).val (by rw [Option.some.inj hz942])
                      · rw [if_neg (of_decide_eq_false hB2)] at hz942
                        refine g_yes h rfl rfl rfl rfl hB2 ?_
                        refine sMV h (fun a h => ?_)
                        refine g_yes h rfl rfl rfl rfl hB2 ?_
                        obtain ⟨x945, h946, hz942⟩ := bsome hz942
                        have hX := know_Set_List_nil0_ok Fu (S0 := snapAll _)  _ h946 _ h.startAll
                        refine q_callX hX h rfl rfl rfl (by decide) Try.func12 rfl rfl rfl (fun a w v L1 S1 hR hb1 h => ?_)
                        obtain ⟨A948, c949, cs950, rfl, rfl, hq951, _⟩ := hR
                        have hq952 := hq951.fl (S' := S925) fl_I
                        refine g_yes h rfl rfl rfl rfl hB2 ?_
                        refine sMV h (fun a h => ?_)
                        refine g_yes h rfl rfl rfl rfl hB2 ?_
                        obtain ⟨x953, h954, hz942⟩ := bsome hz942
                        have hX := know_Set_List_ok Fu (S0 := snapAll _) g883 x882.1 ⟨[.slice A884 x882.1.1.length c885, .slice A887 x882.1.2.1.length c888, .slice A891 x882.1.2.2.1.length c892, .bool x882.1.2.2.2], h.m.boxAll (i := 6) rfl, ⟨[.slice A884 x882.1.1.length c885], [.slice A887 x882.1.2.1.length c888, .slice A891 x882.1.2.2.1.length c892, .bool x882.1.2.2.2], rfl, ⟨_, _, rfl, ((hs886.mono (le919.trans le927))).mono (h.m.leAll (i := 5) rfl)⟩, ⟨[.slice A887 x882.1.2.1.length c888], [.slice A891 x882.1.2.2.1.length c892, .bool x882.1.2.2.2], rfl, ⟨_, _, rfl, h.m.rowAll (i := 7) rfl (j := 5) rfl (hq890.mono (le919.trans le927))⟩, ⟨[.slice A891 x882.1.2.2.1.length c892], [.bool x882.1.2.2.2], rfl, ⟨_, _, rfl, h.m.rowAll (i := 8) rfl (j := 5) rfl (hq894.mono (le919.trans le927))⟩, rfl⟩⟩⟩⟩ _ h954 _ h.startAll
                        refine q_callX hX h rfl rfl rfl (by decide) Try.func12 rfl rfl rfl (fun a w v L1 S1 hR hb1 h => ?_)
                        obtain ⟨A956, c957, cs958, rfl, rfl, hq959, _⟩ := hR
                        have hq960 := hq959.fl (S' := S925) fl_I
                        refine g_yes h rfl rfl rfl rfl hB2 ?_
                        obtain ⟨x961, h962, hz942⟩ := bsome hz942
                        have hX := chatelaineref01_Ints_ok Fu (S0 := snapAll _) A948 c949 x945 (h.m.rowAll (i := 1) rfl (j := 6) rfl hq952) A956 c957 x953 (h.m.rowAll (i := 0) rfl (j := 6) rfl hq960) _ h962 _ h.startAll
                        refine q_callX hX h rfl rfl rfl (by decide) Try.func11 rfl rfl rfl (fun a w v L1 S1 hR hb1 h => ?_)
                        obtain ⟨rfl, rfl, _⟩ := hR
                        refine g_yes h rfl rfl rfl rfl hB2 ?_
                        refine s_x h rfl rfl (by decide) (x_not h.k rfl rfl) (fun a h => ?_)
                        refine s_x h rfl rfl (by decide) (x_pick (u' := undef) h.k rfl rfl (fun hh => absurd (hB2.symm.trans hh) (by decide)) (fun _ => rfl)) (fun a h => ?_)
                        have h := h.pick [2, 3, 4, 5, 6, 7, 8, 9, 10] (by decide) rfl
                        exact (h.mid 6 rfl).val (by rw [Option.some.inj hz942])
                      refine sMV h (fun a h => ?_)
                      obtain ⟨z965, hz964, hf⟩ := bsome hf
                      refine q_grp h 7 (t := 116) 123 z965 rfl (fun hB10 => ?_) (fun hB10 => ?_) (fun a w h => ?_)
                      · refine g_no h rfl rfl rfl rfl hB10 rfl (by decide) (fun a h => ?_)
                        refine g_no h rfl rfl rfl rfl hB10 rfl (by decide) (fun a h => ?_)
                        refine g_no h rfl rfl rfl rfl hB10 rfl (by decide) (fun a h => ?_)
                        refine g_no h rfl rfl rfl rfl hB10 rfl (by decide) (fun a h => ?_)
                        refine g_no h rfl rfl rfl rfl hB10 rfl (by decide) (fun a h => ?_)
                        refine g_no h rfl rfl rfl rfl hB10 rfl (by decide) (fun a h => ?_)
                        rw [if_pos hB10] at hz964
                        refine s_x h rfl rfl (by decide) (x_pick (u' := undef) h.k rfl rfl (fun _ => rfl) (fun hh => absurd (hB10.symm.trans hh) (by decide))) (fun a h => ?_)
                        exact (h.mid 6 rfl).val (by rw [Option.some.inj hz964])
                      · rw [if_neg (by rw [hB10]; decide)] at hz964
                        refine g_yes h rfl rfl rfl rfl hB10 ?_
                        refine sMV h (fun a h => ?_)
                        refine g_yes h rfl rfl rfl rfl hB10 ?_
                        obtain ⟨x967, h968, hz964⟩ := bsome hz964
                        have hX := know_Set_List_nil0_ok Fu (S0 := snapAll _)  _ h968 _ h.startAll
                        refine q_callX hX h rfl rfl rfl (by decide) Try.func12 rfl rfl rfl (fun a w v L1 S1 hR hb1 h => ?_)
                        obtain ⟨A970, c971, cs972, rfl, rfl, hq973, _⟩ := hR
                        have hq974 := hq973.fl (S' := S925) fl_I
                        refine g_yes h rfl rfl rfl rfl hB10 ?_
                        refine sMV h (fun a h => ?_)
                        refine g_yes h rfl rfl rfl rfl hB10 ?_
                        obtain ⟨x975, h976, hz964⟩ := bsome hz964
                        have hX := know_Set_List_nil0_ok Fu (S0 := snapAll _)  _ h976 _ h.startAll
                        refine q_callX hX h rfl rfl rfl (by decide) Try.func12 rfl rfl rfl (fun a w v L1 S1 hR hb1 h => ?_)
                        obtain ⟨A978, c979, cs980, rfl, rfl, hq981, _⟩ := hR
                        have hq982 := hq981.fl (S' := S925) fl_I
                        refine g_yes h rfl rfl rfl rfl hB10 ?_
                        obtain ⟨x983, h984, hz964⟩ := bsome hz964
                        have hX := chatelaineref01_Ints_ok Fu (S0 := snapAll _) A970 c971 x967 (h.m.rowAll (i := 1) rfl (j := 6) rfl hq974) A978 c979 x975 (h.m.rowAll (i := 0) rfl (j := 6) rfl hq982) _ h984 _ h.startAll
                        refine q_callX hX h rfl rfl rfl (by decide) Try.func11 rfl rfl rfl (fun a w v L1 S1 hR hb1 h => ?_)
                        obtain ⟨rfl, rfl, _⟩ := hR
                        refine g_yes h rfl rfl rfl rfl hB10 ?_
                        refine s_x h rfl rfl (by decide) (x_not h.k rfl rfl) (fun a h => ?_)
                        refine s_x h rfl rfl (by decide) (x_pick (u' := undef) h.k rfl rfl (fun hh => absurd (hB10.symm.trans hh) (by decide)) (fun _ => rfl)) (fun a h => ?_)
                        have h := h.pick [2, 3, 4, 5, 6, 7, 8, 9, 10] (by decide) rfl
                        exact (h.mid 6 rfl).val (by rw [Option.some.inj hz964])
                      refine l_end ?_
                      refine c_cond h rfl (fun hb => ?_) (fun hb => ?_)
                      · rw [if_pos hb] at hf
                        refine c_rs ?_
                        refine sAV h (fun a h => ?_)
                        refine l_end ?_
                        refine wp_ret ?_
                        refine e_thenR ?_
                        rw [← Option.some.inj hf]
                        exact r_ret1 h rfl (rv_tmp h rfl) ⟨_, [], _, rfl, ⟨rfl, rfl, trivial⟩, rfl, up926, (h.m.pick [4] _ (by decide) rfl)⟩
                      · rw [if_neg (by rw [hb]; decide)] at hf
                        refine wp_skip ?_
                        refine e_thenN ?_
                        refine wp_seq ?_
                        refine c_rs ?_
                        refine sMV h (fun a h => ?_)
                        obtain ⟨x986, h987, hf⟩ := bsome hf
                        have hX := know_Set_List_ok Fu (S0 := snapAll _) g581 (x580.1.1, x580.1.2.1, x580.1.2.2.1, x580.1.2.2.2) ((hp618.mono ((((le624.trans le647).trans le655).trans le919).trans le927)).mono (h.m.leAll (i := 4) rfl)) _ h987 _ h.startAll
                        refine q_callX hX h rfl rfl rfl (by decide) Try.func12 rfl rfl rfl (fun a w v L1 S1 hR hb1 h => ?_)
                        obtain ⟨A989, c990, cs991, rfl, rfl, hq992, _⟩ := hR
                        have hq993 := hq992.fl (S' := S925) fl_I
                        have hr994 : r64 (x986.length : Int) := len_r (h.m.rowLen (i := 0) rfl)
                        refine s_x h rfl rfl (by decide) (x_len h.k rfl Try.underlying23 rfl) (fun a h => ?_)
                        refine sMV h (fun a h => ?_)
                        refine l_end ?_
                        obtain ⟨o995, hl996, hf⟩ := bsome hf
                        refine c_fin (fun a w => (.inr ()) = o995 ∧ St 136 w0 (ownL ([] ++ [.sn S0])) [] [.sn S925] a w) ?_ ?_
                        · refine wp_block ?_
                          have h := h.pick [0, 5] (by decide) rfl
                          refine c_loop (fun m1000 a w => ∃ (x997 : Int), chatelainelaw37_KnowMore_l6 Fu x986 m1000 x997 = some o995 ∧ r64 x997 ∧ St 136 w0 (ownL ([] ++ [.sn S0])) [(14, .pointer none), (125, .slice A989 x986.length c990), (126, .int .i64 (x986.length : Int)), (127, .int .i64 x997)] [.row (.slice A989 x986.length c990) 3 1 x986.length cs991, .sn S925] a w) Fu ⟨0, hl996, (show r64 0 from ⟨by decide, by decide⟩), h.has (by exact ⟨rfl, rfl, rfl, rfl, trivial⟩)⟩ (fun m1000 a w hI => ?_)
                          obtain ⟨x997, hl999, hr998, h⟩ := hI
                          obtain _ | m1000 := m1000
                          · rw [chatelainelaw37_KnowMore_l6] at hl999; cases hl999
                          rw [chatelainelaw37_KnowMore_l6] at hl999
                          refine c_rs ?_
                          refine s_x h rfl rfl (by decide) (x_bin h.k rfl rfl rfl ib_lss) (fun a h => ?_)
                          refine l_end ?_
                          refine c_cs h rfl (fun hb => ?_) (fun hb => ?_)
                          · rw [if_pos (of_decide_eq_true hb)] at hl999
                            refine wp_skip ?_
                            refine e_thenN ?_
                            refine wp_seq ?_
                            refine wp_block ?_
                            refine c_rs ?_
                            obtain ⟨m1001, h1002, hl999⟩ := bsome hl999
                            obtain ⟨hi1003, hm1004⟩ := ix_some h1002
                            obtain ⟨g1006, hA1005⟩ := h.m.rowHead (i := 0) rfl (Nat.lt_of_le_of_lt (Nat.zero_le _) hm1004)
                            refine s_x h rfl rfl (by decide) (x_iaddrE h.k rfl Try.underlying23 sz_int hA1005 rfl rfl hi1003 hm1004) (fun a h => ?_)
                            obtain ⟨x1007, h1008, hl999⟩ := bsome hl999
                            obtain ⟨u1009, hv1010, hu1011⟩ := (hq993).cell rfl h1008
                            obtain ⟨e1013, hr1012⟩ := hu1011
                            cases e1013
                            refine s_x h rfl rfl (by decide) (x_ld h.k rfl Try.underlying3 rfl rfl (h.m.cellRowE (i := 0) rfl hA1005 _ (by rw [Nat.mul_one]; exact hv1010))) (fun a h => ?_)
                            refine sAV h (fun a h => ?_)
                            refine l_end ?_
                            refine c_rs ?_
                            refine sMV h (fun a h => ?_)
                            refine sMV h (fun a h => ?_)
                            obtain ⟨x1014, h1015, hl999⟩ := bsome hl999
                            have hX := know_Set_Has_nil0_ok Fu (S0 := snapAll _) x1007 hr1012 _ h1015 _ h.startAll
                            refine q_callX hX h rfl rfl rfl (by decide) Try.func10 rfl rfl rfl (fun a w v L1 S1 hR hb1 h => ?_)
                            obtain ⟨rfl, rfl, _⟩ := hR
                            refine s_x h rfl rfl (by decide) (x_not h.k rfl rfl) (fun a h => ?_)
                            refine l_end ?_
                            refine c_cond h rfl (fun hb => ?_) (fun hb => ?_)
                            · rw [if_pos hb] at hl999
                              refine c_rs ?_
                              refine sAV h (fun a h => ?_)
                              refine l_end ?_
                              refine wp_ret ?_
                              refine e_blkR ?_
                              refine e_thenR ?_
                              refine e_thenR ?_
                              refine e_blkR ?_
                              refine e_thenR ?_
                              cases hl999
                              try dsimp only at hf
                              refine e_thenR ?_
                              rw [← Option.some.inj hf]
                              exact r_ret1 h rfl (rv_tmp h rfl) ⟨_, [], _, rfl, ⟨rfl, rfl, trivial⟩, rfl, up926, (h.m.pick [1] _ (by decide) rfl)⟩
                            · rw [if_neg (by rw [hb]; decide)] at hl999
                              refine wp_skip ?_
                              refine e_blkN ?_
                              refine e_thenN ?_
                              refine c_r ?_
                              refine s_x h rfl rfl (by decide) (x_bin h.k rfl rfl rfl (ib_add rfl)) (fun a h => ?_)
                              refine sMV h (fun a h => ?_)
                              refine l_nil ?_
                              exact e_thenN ⟨m1000, Nat.lt_succ_self _, w64 (x997 + 1), hl999, (w64_r _), h.has (by exact ⟨rfl, rfl, rfl, rfl, trivial⟩)⟩
                          · rw [if_neg (of_decide_eq_false hb)] at hl999
                            refine wp_exit ?_
                            refine e_thenX ?_
                            refine e_thenX ?_
                            refine e_blkX ?_
                            refine e_thenN ?_
                            have h := h.pick [1] (by decide) rfl
                            exact ⟨(Option.some.inj hl999), h.has trivial⟩
                        · rintro a w ⟨rfl, h⟩
                          try dsimp only at hf
                          refine e_thenN ?_
                          refine c_rs ?_
                          refine sAV h (fun a h => ?_)
                          refine l_end ?_
                          refine wp_ret ?_
                          rw [← Option.some.inj hf]
                          exact r_ret1 h rfl (rv_tmp h rfl) ⟨_, [], _, rfl, ⟨rfl, rfl, trivial⟩, rfl, up926, h.m⟩
                    · obtain ⟨x1018, rfl, hR⟩ := hR
                      dsimp only at hf
                      obtain ⟨g1019, A1020, c1021, A1023, c1024, cs1025, A1027, c1028, cs1029, A1032, c1033, cs1034, g1036, es1037, cl1038, g1040, es1041, cl1042, rfl, rfl, hs1022, hq1026, hq1030, hr1031, hq1035, hm1039, hm1043, _⟩ := hR
                      refine sMV h (fun a h => ?_)
                      refine s_x h rfl rfl (by decide) (x_ext h.k rfl rfl rfl) (fun a h => ?_)
                      refine s_x h rfl rfl (by decide) (x_ext h.k rfl rfl rfl) (fun a h => ?_)
                      refine sAV h (fun a h => ?_)
                      refine sAV h (fun a h => ?_)
                      refine l_end ?_
                      refine wp_seq ?_
                      refine c_rs ?_
                      refine sMV h (fun a h => ?_)
                      refine s_x h rfl rfl (by decide) (x_bin h.k rfl rfl rfl ib_neq) (fun a h => ?_)
                      refine sMV h (fun a h => ?_)
                      obtain ⟨z1045, hz1044, hf⟩ := bsome hf
                      refine q_grp h 7 (t := 108) 115 z1045 rfl (fun hB2 => ?_) (fun hB2 => ?_) (fun a w h => ?_)
                      · refine g_no h rfl rfl rfl rfl hB2 rfl (by decide) (fun a h => ?_)
                        refine g_no h rfl rfl rfl rfl hB2 rfl (by decide) (fun a h => ?_)
                        refine g_no h rfl rfl rfl rfl hB2 rfl (by decide) (fun a h => ?_)
                        refine g_no h rfl rfl rfl rfl hB2 rfl (by decide) (fun a h => ?_)
                        refine g_no h rfl rfl rfl rfl hB2 rfl (by decide) (fun a h => ?_)
                        refine g_no h rfl rfl rfl rfl hB2 rfl (by decide) (fun a h => ?_)
                        rw [if_pos (of_decide_eq_true hB2)] at hz1044
                        refine s_x h rfl rfl (by decide) (x_pick (u' := undef) h.k rfl rfl (fun _ => rfl) (fun hh => absurd (hB2.symm.trans hh) (by decide))) (fun a h => ?_)
                        exact (h.mid 6 rfl).val (by rw [Option.some.inj hz1044])
                      · rw [if_neg (of_decide_eq_false hB2)] at hz1044
                        refine g_yes h rfl rfl rfl rfl hB2 ?_
                        refine sMV h (fun a h => ?_)
                        refine g_yes h rfl rfl rfl rfl hB2 ?_
                        obtain ⟨x1047, h1048, hz1044⟩ := bsome hz1044
                        have hX := know_Set_List_nil0_ok Fu (S0 := snapAll _)  _ h1048 _ h.startAll
                        refine q_callX hX h rfl rfl rfl (by decide) Try.func12 rfl rfl rfl (fun a w v L1 S1 hR hb1 h => ?_)
                        obtain ⟨A1050, c1051, cs1052, rfl, rfl, hq1053, _⟩ := hR
                        have hq1054 := hq1053.fl (S' := S925) fl_I
                        refine g_yes h rfl rfl rfl rfl hB2 ?_
                        refine sMV h (fun a h => ?_)
                        refine g_yes h rfl rfl rfl rfl hB2 ?_
                        obtain ⟨x1055, h1056, hz1044⟩ := bsome hz1044
                        have hX := know_Set_List_ok Fu (S0 := snapAll _) g883 x882.1 ⟨[.slice A884 x882.1.1.length c885, .slice A887 x882.1.2.1.length c888, .slice A891 x882.1.2.2.1.length c892, .bool x882.1.2.2.2], h.m.boxAll (i := 9) rfl, ⟨[.slice A884 x882.1.1.length c885], [.slice A887 x882.1.2.1.length c888, .slice A891 x882.1.2.2.1.length c892, .bool x882.1.2.2.2], rfl, ⟨_, _, rfl, ((hs886.mono (le919.trans le927))).mono (h.m.leAll (i := 8) rfl)⟩, ⟨[.slice A887 x882.1.2.1.length c888], [.slice A891 x882.1.2.2.1.length c892, .bool x882.1.2.2.2], rfl, ⟨_, _, rfl, h.m.rowAll (i := 10) rfl (j := 8) rfl (hq890.mono (le919.trans le927))⟩, ⟨[.slice A891 x882.1.2.2.1.length c892], [.bool x882.1.2.2.2], rfl, ⟨_, _, rfl, h.m.rowAll (i := 11) rfl (j := 8) rfl (hq894.mono (le919.trans le927))⟩, rfl⟩⟩⟩⟩ _ h1056 _ h.startAll
                        refine q_callX hX h rfl rfl rfl (by decide) Try.func12 rfl rfl rfl (fun a w v L1 S1 hR hb1 h => ?_)
                        obtain ⟨A1058, c1059, cs1060, rfl, rfl, hq1061, _⟩ := hR
                        have hq1062 := hq1061.fl (S' := S925) fl_I
                        refine g_yes h rfl rfl rfl rfl hB2 ?_
                        obtain ⟨x1063, h1064, hz1044⟩ := bsome hz1044
                        have hX := chatelaineref01_Ints_ok Fu (S0 := snapAll _) A1050 c1051 x1047 (h.m.rowAll (i := 1) rfl (j := 9) rfl hq1054) A1058 c1059 x1055 (h.m.rowAll (i := 0) rfl (j := 9) rfl hq1062) _ h1064 _ h.startAll
                        refine q_callX hX h rfl rfl rfl (by decide) Try.func11 rfl rfl rfl (fun a w v L1 S1 hR hb1 h => ?_)
                        obtain ⟨rfl, rfl, _⟩ := hR
                        refine g_yes h rfl rfl rfl rfl hB2 ?_
                        refine s_x h rfl rfl (by decide) (x_not h.k rfl rfl) (fun a h => ?_)
                        refine s_x h rfl rfl (by decide) (x_pick (u' := undef) h.k rfl rfl (fun hh => absurd (hB2.symm.trans hh) (by decide)) (fun _ => rfl)) (fun a h => ?_)
                        have h := h.pick [2, 3, 4, 5, 6, 7, 8, 9, 10, 11, 12, 13] (by decide) rfl
                        exact (h.mid 6 rfl).val (by rw [Option.some.inj hz1044])
                      refine sMV h (fun a h => ?_)
                      obtain ⟨z1067, hz1066, hf⟩ := bsome hf
                      refine q_grp h 7 (t := 116) 123 z1067 rfl (fun hB10 => ?_) (fun hB10 => ?_) (fun a w h => ?_)
                      · refine g_no h rfl rfl rfl rfl hB10 rfl (by decide) (fun a h => ?_)
                        refine g_no h rfl rfl rfl rfl hB10 rfl (by decide) (fun a h => ?_)
                        refine g_no h rfl rfl rfl rfl hB10 rfl (by decide) (fun a h => ?_)
                        refine g_no h rfl rfl rfl rfl hB10 rfl (by decide) (fun a h => ?_)
                        refine g_no h rfl rfl rfl rfl hB10 rfl (by decide) (fun a h => ?_)
                        refine g_no h rfl rfl rfl rfl hB10 rfl (by decide) (fun a h => ?_)
                        rw [if_pos hB10] at hz1066
                        refine s_x h rfl rfl (by decide) (x_pick (u' := undef) h.k rfl rfl (fun _ => rfl) (fun hh => absurd (hB10.symm.trans hh) (by decide))) (fun a h => ?_)
                        exact (h.mid 6 rfl).val (by rw [Option.some.inj hz1066])
                      · rw [if_neg (by rw [hB10]; decide)] at hz1066
                        refine g_yes h rfl rfl rfl rfl hB10 ?_
                        refine sMV h (fun a h => ?_)
                        refine g_yes h rfl rfl rfl rfl hB10 ?_
                        obtain ⟨x1069, h1070, hz1066⟩ := bsome hz1066
                        have hX := know_Set_List_ok Fu (S0 := snapAll _) g1019 x1018.1 ⟨[.slice A1020 x1018.1.1.length c1021, .slice A1023 x1018.1.2.1.length c1024, .slice A1027 x1018.1.2.2.1.length c1028, .bool x1018.1.2.2.2], h.m.boxAll (i := 0) rfl, ⟨[.slice A1020 x1018.1.1.length c1021], [.slice A1023 x1018.1.2.1.length c1024, .slice A1027 x1018.1.2.2.1.length c1028, .bool x1018.1.2.2.2], rfl, ⟨_, _, rfl, (hs1022).mono (h.m.leAll (i := 7) rfl)⟩, ⟨[.slice A1023 x1018.1.2.1.length c1024], [.slice A1027 x1018.1.2.2.1.length c1028, .bool x1018.1.2.2.2], rfl, ⟨_, _, rfl, h.m.rowAll (i := 1) rfl (j := 7) rfl hq1026⟩, ⟨[.slice A1027 x1018.1.2.2.1.length c1028], [.bool x1018.1.2.2.2], rfl, ⟨_, _, rfl, h.m.rowAll (i := 2) rfl (j := 7) rfl hq1030⟩, rfl⟩⟩⟩⟩ _ h1070 _ h.startAll
                        refine q_callX hX h rfl rfl rfl (by decide) Try.func12 rfl rfl rfl (fun a w v L1 S1 hR hb1 h => ?_)
                        obtain ⟨A1072, c1073, cs1074, rfl, rfl, hq1075, _⟩ := hR
                        have hq1076 := hq1075.fl (S' := S925) fl_I
                        refine g_yes h rfl rfl rfl rfl hB10 ?_
                        refine sMV h (fun a h => ?_)
                        refine g_yes h rfl rfl rfl rfl hB10 ?_
                        obtain ⟨x1077, h1078, hz1066⟩ := bsome hz1066
                        have hX := know_Set_List_nil0_ok Fu (S0 := snapAll _)  _ h1078 _ h.startAll
                        refine q_callX hX h rfl rfl rfl (by decide) Try.func12 rfl rfl rfl (fun a w v L1 S1 hR hb1 h => ?_)
                        obtain ⟨A1080, c1081, cs1082, rfl, rfl, hq1083, _⟩ := hR
                        have hq1084 := hq1083.fl (S' := S925) fl_I
                        refine g_yes h rfl rfl rfl rfl hB10 ?_
                        obtain ⟨x1085, h1086, hz1066⟩ := bsome hz1066
                        have hX := chatelaineref01_Ints_ok Fu (S0 := snapAll _) A1072 c1073 x1069 (h.m.rowAll (i := 1) rfl (j := 9) rfl hq1076) A1080 c1081 x1077 (h.m.rowAll (i := 0) rfl (j := 9) rfl hq1084) _ h1086 _ h.startAll
                        refine q_callX hX h rfl rfl rfl (by decide) Try.func11 rfl rfl rfl (fun a w v L1 S1 hR hb1 h => ?_)
                        obtain ⟨rfl, rfl, _⟩ := hR
                        refine g_yes h rfl rfl rfl rfl hB10 ?_
                        refine s_x h rfl rfl (by decide) (x_not h.k rfl rfl) (fun a h => ?_)
                        refine s_x h rfl rfl (by decide) (x_pick (u' := undef) h.k rfl rfl (fun hh => absurd (hB10.symm.trans hh) (by decide)) (fun _ => rfl)) (fun a h => ?_)
                        have h := h.pick [2, 3, 4, 5, 6, 7, 8, 9, 10, 11, 12, 13] (by decide) rfl
                        exact (h.mid 6 rfl).val (by rw [Option.some.inj hz1066])
                      refine l_end ?_
                      refine c_cond h rfl (fun hb => ?_) (fun hb => ?_)
                      · rw [if_pos hb] at hf
                        refine c_rs ?_
                        refine sAV h (fun a h => ?_)
                        refine l_end ?_
                        refine wp_ret ?_
                        refine e_thenR ?_
                        rw [← Option.some.inj hf]
                        exact r_ret1 h rfl (rv_tmp h rfl) ⟨_, [], _, rfl, ⟨rfl, rfl, trivial⟩, rfl, up926, (h.m.pick [7] _ (by decide) rfl)⟩
                      · rw [if_neg (by rw [hb]; decide)] at hf
                        refine wp_skip ?_
                        refine e_thenN ?_
                        refine wp_seq ?_
                        refine c_rs ?_
                        refine sMV h (fun a h => ?_)
                        obtain ⟨x1088, h1089, hf⟩ := bsome hf
                        have hX := know_Set_List_ok Fu (S0 := snapAll _) g581 (x580.1.1, x580.1.2.1, x580.1.2.2.1, x580.1.2.2.2) ((hp618.mono ((((le624.trans le647).trans le655).trans le919).trans le927)).mono (h.m.leAll (i := 7) rfl)) _ h1089 _ h.startAll
                        refine q_callX hX h rfl rfl rfl (by decide) Try.func12 rfl rfl rfl (fun a w v L1 S1 hR hb1 h => ?_)
                        obtain ⟨A1091, c1092, cs1093, rfl, rfl, hq1094, _⟩ := hR
                        have hq1095 := hq1094.fl (S' := S925) fl_I
                        have hr1096 : r64 (x1088.length : Int) := len_r (h.m.rowLen (i := 0) rfl)
                        refine s_x h rfl rfl (by decide) (x_len h.k rfl Try.underlying23 rfl) (fun a h => ?_)
                        refine sMV h (fun a h => ?_)
                        refine l_end ?_
                        obtain ⟨o1097, hl1098, hf⟩ := bsome hf
                        refine c_fin (fun a w => (.inr ()) = o1097 ∧ St 136 w0 (ownL ([] ++ [.sn S0])) [] [.sn S925] a w) ?_ ?_
                        · refine wp_block ?_
                          have h := h.pick [0, 8] (by decide) rfl
                          refine c_loop (fun m1102 a w => ∃ (x1099 : Int), chatelainelaw37_KnowMore_l7 Fu x1088 m1102 x1099 = some o1097 ∧ r64 x1099 ∧ St 136 w0 (ownL ([] ++ [.sn S0])) [(14, .pointer none), (125, .slice A1091 x1088.length c1092), (126, .int .i64 (x1088.length : Int)), (127, .int .i64 x1099)] [.row (.slice A1091 x1088.length c1092) 3 1 x1088.length cs1093, .sn S925] a w) Fu ⟨0, hl1098, (show r64 0 from ⟨by decide, by decide⟩), h.has (by exact ⟨rfl, rfl, rfl, rfl, trivial⟩)⟩ (fun m1102 a w hI => ?_)
                          obtain ⟨x1099, hl1101, hr1100, h⟩ := hI
                          obtain _ | m1102 := m1102
                          · rw [chatelainelaw37_KnowMore_l7] at hl1101; cases hl1101
                          rw [chatelainelaw37_KnowMore_l7] at hl1101
                          refine c_rs ?_
                          refine s_x h rfl rfl (by decide) (x_bin h.k rfl rfl rfl ib_lss) (fun a h => ?_)
                          refine l_end ?_
                          refine c_cs h rfl (fun hb => ?_) (fun hb => ?_)
                          · rw [if_pos (of_decide_eq_true hb)] at hl1101
                            refine wp_skip ?_
                            refine e_thenN ?_
                            refine wp_seq ?_
                            refine wp_block ?_
                            refine c_rs ?_
                            obtain ⟨m1103, h1104, hl1101⟩ := bsome hl1101
                            obtain ⟨hi1105, hm1106⟩ := ix_some h1104
                            obtain ⟨g1108, hA1107⟩ := h.m.rowHead (i := 0) rfl (Nat.lt_of_le_of_lt (Nat.zero_le _) hm1106)
                            refine s_x h rfl rfl (by decide) (x_iaddrE h.k rfl Try.underlying23 sz_int hA1107 rfl rfl hi1105 hm1106) (fun a h => ?_)
                            obtain ⟨x1109, h1110, hl1101⟩ := bsome hl1101
                            obtain ⟨u1111, hv1112, hu1113⟩ := (hq1095).cell rfl h1110
                            obtain ⟨e1115, hr1114⟩ := hu1113
                            cases e1115
                            refine s_x h rfl rfl (by decide) (x_ld h.k rfl Try.underlying3 rfl rfl (h.m.cellRowE (i := 0) rfl hA1107 _ (by rw [Nat.mul_one]; exact hv1112))) (fun a h => ?_)
                            refine sAV h (fun a h => ?_)
                            refine l_end ?_
                            refine c_rs ?_
                            refine sMV h (fun a h => ?_)
                            refine sMV h (fun a h => ?_)
                            obtain ⟨x1116, h1117, hl1101⟩ := bsome hl1101
                            have hX := know_Set_Has_nil0_ok Fu (S0 := snapAll _) x1109 hr1114 _ h1117 _ h.startAll
                            refine q_callX hX h rfl rfl rfl (by decide) Try.func10 rfl rfl rfl (fun a w v L1 S1 hR hb1 h => ?_)
                            obtain ⟨rfl, rfl, _⟩ := hR
                            refine s_x h rfl rfl (by decide) (x_not h.k rfl rfl) (fun a h => ?_)
                            refine l_end ?_
                            refine c_cond h rfl (fun hb => ?_) (fun hb => ?_)
                            · rw [if_pos hb] at hl1101
                              refine c_rs ?_
                              refine sAV h (fun a h => ?_)
                              refine l_end ?_
                              refine wp_ret ?_
                              refine e_blkR ?_
                              refine e_thenR ?_
                              refine e_thenR ?_
                              refine e_blkR ?_
                              refine e_thenR ?_
                              cases hl1101
                              try dsimp only at hf
                              refine e_thenR ?_
                              rw [← Option.some.inj hf]
                              exact r_ret1 h rfl (rv_tmp h rfl) ⟨_, [], _, rfl, ⟨rfl, rfl, trivial⟩, rfl, up926, (h.m.pick [1] _ (by decide) rfl)⟩
                            · rw [if_neg (by rw [hb]; decide)] at hl1101
                              refine wp_skip ?_
                              refine e_blkN ?_
                              refine e_thenN ?_
                              refine c_r ?_
                              refine s_x h rfl rfl (by decide) (x_bin h.k rfl rfl rfl (ib_add rfl)) (fun a h => ?_)
                              refine sMV h (fun a h => ?_)
                              refine l_nil ?_
                              exact e_thenN ⟨m1102, Nat.lt_succ_self _, w64 (x1099 + 1), hl1101, (w64_r _), h.has (by exact ⟨rfl, rfl, rfl, rfl, trivial⟩)⟩
                          · rw [if_neg (of_decide_eq_false hb)] at hl1101
                            refine wp_exit ?_
                            refine e_thenX ?_
                            refine e_thenX ?_
                            refine e_blkX ?_
                            refine e_thenN ?_
                            have h := h.pick [1] (by decide) rfl
                            exact ⟨(Option.some.inj hl1101), h.has trivial⟩
                        · rintro a w ⟨rfl, h⟩
                          try dsimp only at hf
                          refine e_thenN ?_
                          refine c_rs ?_
                          refine sAV h (fun a h => ?_)
                          refine l_end ?_
                          refine wp_ret ?_
                          rw [← Option.some.inj hf]
                          exact r_ret1 h rfl (rv_tmp h rfl) ⟨_, [], _, rfl, ⟨rfl, rfl, trivial⟩, rfl, up926, h.m⟩
            · obtain ⟨x1120, rfl, hR⟩ := hR
              dsimp only at hf
              obtain ⟨g1121, A1122, c1123, A1125, c1126, cs1127, A1129, c1130, cs1131, rfl, rfl, hs1124, hq1128, hq1132, hr1133, _⟩ := hR
              refine sMV h (fun a h => ?_)
              refine s_x h rfl rfl (by decide) (x_ext h.k rfl rfl rfl) (fun a h => ?_)
              refine s_x h rfl rfl (by decide) (x_ext h.k rfl rfl rfl) (fun a h => ?_)
              refine sAV h (fun a h => ?_)
              refine sAV h (fun a h => ?_)
              refine l_end ?_
              refine c_rs ?_
              refine sMV h (fun a h => ?_)
              refine q_bslice0 h rfl rfl rfl (by decide) Try.underlying23 sz_int (fun a w A1134 h => ?_)
              refine sMV h (fun a h => ?_)
              obtain ⟨x1135, h1136, hf⟩ := bsome hf
              obtain ⟨_, _, vs1137, hrd1138, hrp1139⟩ := id (hsa1.mono ((((((le9.trans le42).trans le65).trans le607).trans le611).trans le615).trans le624))
              refine q_append (T := tyI) (S := S622) h rfl rfl rfl (by decide) Try.underlying23 zb_int rfl (by decide) rfl 0 rfl (show reps tyI S622 [] [] from rfl) rfl hrp1139 (hrd1138 _ (h.m.snOK (i := 4) rfl)) h1136 (fun a w A1140 c1141 cs1142 hq1143 h => ?_)
              refine sMV h (fun a h => ?_)
              obtain ⟨x1144, h1145, hf⟩ := bsome hf
              obtain ⟨_, _, vs1146, hrd1147, hrp1148⟩ := id (hsa2.mono ((((((le9.trans le42).trans le65).trans le607).trans le611).trans le615).trans le624))
              refine q_append (T := tyI) (S := S622) h rfl rfl rfl (by decide) Try.underlying23 zb_int rfl (by decide) rfl 0 rfl hq1143 rfl hrp1148 (hrd1147 _ (h.m.snOK (i := 4) rfl)) h1145 (fun a w A1149 c1150 cs1151 hq1152 h => ?_)
              have h := h.pick [0, 4, 1, 2, 3, 5, 6, 7, 8, 9] (by decide) rfl
              obtain ⟨S1153, le1154, up1155, hs1156, h⟩ := q_freeze (T := tyI) h up623 hq1152
              obtain ⟨x1157, h1158, hf⟩ := bsome hf
              have h := h.pick [4, 5, 6, 7, 0, 1, 2, 3, 8] (by decide) rfl
              have hX := know_From_ok Fu (S0 := S1153) x580.2.2 g43 A594 c595 cs596 g598 es599 cl600 g602 es603 cl604 (hq597.mono ((((le607.trans le611).trans le615).trans le624).trans le1154)) (hm601.mono ((((le607.trans le611).trans le615).trans le624).trans le1154)) (hm605.mono ((((le607.trans le611).trans le615).trans le624).trans le1154)) A1149 c1150 x1144 hs1156 _ h1158 _ (h.sub (Ls := [.box g43 52 ([.slice A594 x580.2.2.1.length c595, .map (some g598), .map (some g602)]), .row (.slice A594 x580.2.2.1.length c595) 46 3 x580.2.2.1.length cs596, .obj g598 (.map es599 cl600), .obj g602 (.map es603 cl604)]))
              refine q_callY (Ls := [.box g43 52 ([.slice A594 x580.2.2.1.length c595, .map (some g598), .map (some g602)]), .row (.slice A594 x580.2.2.1.length c595) 46 3 x580.2.2.1.length cs596, .obj g598 (.map es599 cl600), .obj g602 (.map es603 cl604)]) hX h up1155 rfl rfl rfl (by decide) Try.func6 rfl rfl rfl (fun a w v L1 S1160 hR le1162 up1161 h => ?_)
              rcases hR with hR | hR
              · obtain ⟨x1163, rfl, hR⟩ := hR
                dsimp only at hf
                obtain ⟨A1165, c1166, cs1167, g1169, es1170, cl1171, g1173, es1174, cl1175, rfl, rfl, hr1164, hq1168, hm1172, hm1176, _⟩ := hR
                refine sMV h (fun a h => ?_)
                refine s_x h rfl rfl (by decide) (x_ext h.k rfl rfl rfl) (fun a h => ?_)
                refine s_x h rfl rfl (by decide) (x_ext h.k rfl rfl rfl) (fun a h => ?_)
                refine sAV h (fun a h => ?_)
                refine sAV h (fun a h => ?_)
                refine l_end ?_
                refine wp_seq ?_
                refine c_rs ?_
                refine sMV h (fun a h => ?_)
                refine sMV h (fun a h => ?_)
                refine s_x h rfl rfl (by decide) (x_bin h.k rfl rfl rfl ib_neq) (fun a h => ?_)
                refine l_end ?_
                refine c_cond h rfl (fun hb => ?_) (fun hb => ?_)
                · rw [if_pos (of_decide_eq_true hb)] at hf
                  refine c_rs ?_
                  refine sAV h (fun a h => ?_)
                  refine l_end ?_
                  refine wp_ret ?_
                  refine e_thenR ?_
                  rw [← Option.some.inj hf]
                  exact r_ret1 h rfl (rv_tmp h rfl) ⟨_, [], _, rfl, ⟨rfl, rfl, trivial⟩, rfl, up1161, (h.m.pick [4] _ (by decide) rfl)⟩
                · rw [if_neg (of_decide_eq_false hb)] at hf
                  refine wp_skip ?_
                  refine e_thenN ?_
                  refine wp_seq ?_
                  refine c_rs ?_
                  refine sMV h (fun a h => ?_)
                  refine s_x h rfl rfl (by decide) (x_bin h.k rfl rfl rfl ib_neq) (fun a h => ?_)
                  refine l_end ?_
                  refine c_cond h rfl (fun hb => ?_) (fun hb => ?_)
                  · rw [if_pos (of_decide_eq_true hb)] at hf
                    refine c_rs ?_
                    refine sMV h (fun a h => ?_)
                    refine s_x h rfl rfl (by decide) (x_eql_pn h.k rfl Try.underlying25 rfl rfl) (fun a h => ?_)
                    refine sMV h (fun a h => ?_)
                    refine q_grp h 3 (t := 95) 98 false rfl (fun hB2 => ?_) (fun hB2 => ?_) (fun a w h => ?_)
                    · exact absurd hB2 (by decide)
                    · refine g_no h rfl rfl rfl rfl hB2 rfl (by decide) (fun a h => ?_)
                      refine g_no h rfl rfl rfl rfl hB2 rfl (by decide) (fun a h => ?_)
                      refine s_x h rfl rfl (by decide) (x_pick (u' := undef) h.k rfl rfl (fun hh => absurd (hB2.symm.trans hh) (by decide)) (fun _ => rfl)) (fun a h => ?_)
                      exact (h.mid 2 rfl).val (by first | rfl | (rw [hB2]; first | rfl | simp))
                    refine sAV h (fun a h => ?_)
                    refine l_end ?_
                    refine wp_ret ?_
                    refine e_thenR ?_
                    rw [← Option.some.inj hf]
                    exact r_ret1 h rfl (rv_tmp h rfl) ⟨_, [], _, rfl, ⟨rfl, rfl, trivial⟩, rfl, up1161, (h.m.pick [4] _ (by decide) rfl)⟩
                  · rw [if_neg (of_decide_eq_false hb)] at hf
                    refine wp_skip ?_
                    refine e_thenN ?_
                    refine c_rs ?_
                    refine sMV h (fun a h => ?_)
                    refine sMV h (fun a h => ?_)
                    obtain ⟨x1179, h1180, hf⟩ := bsome hf
                    have hX := know_Set_List_ok Fu (S0 := snapAll _) g1121 x1120.1 ⟨[.slice A1122 x1120.1.1.length c1123, .slice A1125 x1120.1.2.1.length c1126, .slice A1129 x1120.1.2.2.1.length c1130, .bool x1120.1.2.2.2], h.m.boxAll (i := 5) rfl, ⟨[.slice A1122 x1120.1.1.length c1123], [.slice A1125 x1120.1.2.1.length c1126, .slice A1129 x1120.1.2.2.1.length c1130, .bool x1120.1.2.2.2], rfl, ⟨_, _, rfl, ((hs1124.mono (le1154.trans le1162))).mono (h.m.leAll (i := 4) rfl)⟩, ⟨[.slice A1125 x1120.1.2.1.length c1126], [.slice A1129 x1120.1.2.2.1.length c1130, .bool x1120.1.2.2.2], rfl, ⟨_, _, rfl, h.m.rowAll (i := 6) rfl (j := 4) rfl (hq1128.mono (le1154.trans le1162))⟩, ⟨[.slice A1129 x1120.1.2.2.1.length c1130], [.bool x1120.1.2.2.2], rfl, ⟨_, _, rfl, h.m.rowAll (i := 7) rfl (j := 4) rfl (hq1132.mono (le1154.trans le1162))⟩, rfl⟩⟩⟩⟩ _ h1180 _ h.startAll
                    refine q_callX hX h rfl rfl rfl (by decide) Try.func12 rfl rfl rfl (fun a w v L1 S1 hR hb1 h => ?_)
                    obtain ⟨A1182, c1183, cs1184, rfl, rfl, hq1185, _⟩ := hR
                    have hq1186 := hq1185.fl (S' := S1160) fl_I
                    have h := h.pick [0, 5, 1, 2, 3, 4, 6, 7, 8, 9] (by decide) rfl
                    obtain ⟨S1187, le1188, up1189, hs1190, h⟩ := q_freeze (T := tyI) h up1161 hq1186
                    obtain ⟨x1191, h1192, hf⟩ := bsome hf
                    have h := h.pick [1, 2, 3, 4, 0, 5, 6, 7, 8] (by decide) rfl
                    have hX := know_From_ok Fu (S0 := S1187) x1163.2 g43 A1165 c1166 cs1167 g1169 es1170 cl1171 g1173 es1174 cl1175 (hq1168.mono le1188) (hm1172.mono le1188) (hm1176.mono le1188) A1182 c1183 x1179 hs1190 _ h1192 _ (h.sub (Ls := [.box g43 52 ([.slice A1165 x1163.2.1.length c1166, .map (some g1169), .map (some g1173)]), .row (.slice A1165 x1163.2.1.length c1166) 46 3 x1163.2.1.length cs1167, .obj g1169 (.map es1170 cl1171), .obj g1173 (.map es1174 cl1175)]))
                    refine q_callY (Ls := [.box g43 52 ([.slice A1165 x1163.2.1.length c1166, .map (some g1169), .map (some g1173)]), .row (.slice A1165 x1163.2.1.length c1166) 46 3 x1163.2.1.length cs1167, .obj g1169 (.map es1170 cl1171), .obj g1173 (.map es1174 cl1175)]) hX h up1189 rfl rfl rfl (by decide) Try.func6 rfl rfl rfl (fun a w v L1 S1194 hR le1196 up1195 h => ?_)
                    rcases hR with hR | hR
                    · obtain ⟨x1197, rfl, hR⟩ := hR
                      dsimp only at hf
                      obtain ⟨A1199, c1200, cs1201, g1203, es1204, cl1205, g1207, es1208, cl1209, rfl, rfl, hr1198, hq1202, hm1206, hm1210, _⟩ := hR
                      refine sMV h (fun a h => ?_)
                      refine s_x h rfl rfl (by decide) (x_ext h.k rfl rfl rfl) (fun a h => ?_)
                      refine s_x h rfl rfl (by decide) (x_ext h.k rfl rfl rfl) (fun a h => ?_)
                      refine sAV h (fun a h => ?_)
                      refine sAV h (fun a h => ?_)
                      refine l_end ?_
                      refine wp_seq ?_
                      refine c_rs ?_
                      refine sMV h (fun a h => ?_)
                      refine s_x h rfl rfl (by decide) (x_bin h.k rfl rfl rfl ib_neq) (fun a h => ?_)
                      refine sMV h (fun a h => ?_)
                      obtain ⟨z1212, hz1211, hf⟩ := bsome hf
                      refine q_grp h 7 (t := 108) 115 z1212 rfl (fun hB2 => ?_) (fun hB2 => ?_) (fun a w h => ?_)
                      · refine g_no h rfl rfl rfl rfl hB2 rfl (by decide) (fun a h => ?_)
                        refine g_no h rfl rfl rfl rfl hB2 rfl (by decide) (fun a h => ?_)
                        refine g_no h rfl rfl rfl rfl hB2 rfl (by decide) (fun a h => ?_)
                        refine g_no h rfl rfl rfl rfl hB2 rfl (by decide) (fun a h => ?_)
                        refine g_no h rfl rfl rfl rfl hB2 rfl (by decide) (fun a h => ?_)
                        refine g_no h rfl rfl rfl rfl hB2 rfl (by decide) (fun a h => ?_)
                        rw [if_pos (of_decide_eq_true hB2)] at hz1211
                        refine s_x h rfl rfl (by decide) (x_pick (u' := undef) h.k rfl rfl (fun _ => rfl) (fun hh => absurd (hB2.symm.trans hh) (by decide))) (fun a h => ?_)
                        exact (h.mid 6 rfl).val (by rw [Option.some.inj hz1211])
                      · rw [if_neg (of_decide_eq_false hB2)] at hz1211
                        refine g_yes h rfl rfl rfl rfl hB2 ?_
                        refine sMV h (fun a h => ?_)
                        refine g_yes h rfl rfl rfl rfl hB2 ?_
                        obtain ⟨x1214, h1215, hz1211⟩ := bsome hz1211
                        have hX := know_Set_List_ok Fu (S0 := snapAll _) g1121 x1120.1 ⟨[.slice A1122 x1120.1.1.length c1123, .slice A1125 x1120.1.2.1.length c1126, .slice A1129 x1120.1.2.2.1.length c1130, .bool x1120.1.2.2.2], h.m.boxAll (i := 5) rfl, ⟨[.slice A1122 x1120.1.1.length c1123], [.slice A1125 x1120.1.2.1.length c1126, .slice A1129 x1120.1.2.2.1.length c1130, .bool x1120.1.2.2.2], rfl, ⟨_, _, rfl, ((hs1124.mono (((le1154.trans le1162).trans le1188).trans le1196))).mono (h.m.leAll (i := 4) rfl)⟩, ⟨[.slice A1125 x1120.1.2.1.length c1126], [.slice A1129 x1120.1.2.2.1.length c1130, .bool x1120.1.2.2.2], rfl, ⟨_, _, rfl, h.m.rowAll (i := 6) rfl (j := 4) rfl (hq1128.mono (((le1154.trans le1162).trans le1188).trans le1196))⟩, ⟨[.slice A1129 x1120.1.2.2.1.length c1130], [.bool x1120.1.2.2.2], rfl, ⟨_, _, rfl, h.m.rowAll (i := 7) rfl (j := 4) rfl (hq1132.mono (((le1154.trans le1162).trans le1188).trans le1196))⟩, rfl⟩⟩⟩⟩ _ h1215 _ h.startAll
                        refine q_callX hX h rfl rfl rfl (by decide) Try.func12 rfl rfl rfl (fun a w v L1 S1 hR hb1 h => ?_)
                        obtain ⟨A1217, c1218, cs1219, rfl, rfl, hq1220, _⟩ := hR
                        have hq1221 := hq1220.fl (S' := S1194) fl_I
                        refine g_yes h rfl rfl rfl rfl hB2 ?_
                        refine sMV h (fun a h => ?_)
                        refine g_yes h rfl rfl rfl rfl hB2 ?_
                        obtain ⟨x1222, h1223, hz1211⟩ := bsome hz1211
                        have hX := know_Set_List_nil0_ok Fu (S0 := snapAll _)  _ h1223 _ h.startAll
                        refine q_callX hX h rfl rfl rfl (by decide) Try.func12 rfl rfl rfl (fun a w v L1 S1 hR hb1 h => ?_)
                        obtain ⟨A1225, c1226, cs1227, rfl, rfl, hq1228, _⟩ := hR
                        have hq1229 := hq1228.fl (S' := S1194) fl_I
                        refine g_yes h rfl rfl rfl rfl hB2 ?_
                        obtain ⟨x1230, h1231, hz1211⟩ := bsome hz1211
                        have hX := chatelaineref01_Ints_ok Fu (S0 := snapAll _) A1217 c1218 x1214 (h.m.rowAll (i := 1) rfl (j := 6) rfl hq1221) A1225 c1226 x1222 (h.m.rowAll (i := 0) rfl (j := 6) rfl hq1229) _ h1231 _ h.startAll
                        refine q_callX hX h rfl rfl rfl (by decide) Try.func11 rfl rfl rfl (fun a w v L1 S1 hR hb1 h => ?_)
                        obtain ⟨rfl, rfl, _⟩ := hR
                        refine g_yes h rfl rfl rfl rfl hB2 ?_
                        refine s_x h rfl rfl (by decide) (x_not h.k rfl rfl) (fun a h => ?_)
                        refine s_x h rfl rfl (by decide) (x_pick (u' := undef) h.k rfl rfl (fun hh => absurd (hB2.symm.trans hh) (by decide)) (fun _ => rfl)) (fun a h => ?_)
                        have h := h.pick [2, 3, 4, 5, 6, 7, 8, 9, 10] (by decide) rfl
                        exact (h.mid 6 rfl).val (by rw [Option.some.inj hz1211])
                      refine sMV h (fun a h => ?_)
                      obtain ⟨z1234, hz1233, hf⟩ := bsome hf
                      refine q_grp h 7 (t := 116) 123 z1234 rfl (fun hB10 => ?_) (fun hB10 => ?_) (fun a w h => ?_)
                      · refine g_no h rfl rfl rfl rfl hB10 rfl (by decide) (fun a h => ?_)
                        refine g_no h rfl rfl rfl rfl hB10 rfl (by decide) (fun a h => ?_)
                        refine g_no h rfl rfl rfl rfl hB10 rfl (by decide) (fun a h => ?_)
                        refine g_no h rfl rfl rfl rfl hB10 rfl (by decide) (fun a h => ?_)
                        refine g_no h rfl rfl rfl rfl hB10 rfl (by decide) (fun a h => ?_)
                        refine g_no h rfl rfl rfl rfl hB10 rfl (by decide) (fun a h => ?_)
                        rw [if_pos hB10] at hz1233
                        refine s_x h rfl rfl (by decide) (x_pick (u' := undef) h.k rfl rfl (fun _ => rfl) (fun hh => absurd (hB10.symm.trans hh) (by decide))) (fun a h => ?_)
                        exact (h.mid 6 rfl).val (by rw [Option.some.inj hz1233])
                      · rw [if_neg (by rw [hB10]; decide)] at hz1233
                        refine g_yes h rfl rfl rfl rfl hB10 ?_
                        refine sMV h (fun a h => ?_)
                        refine g_yes h rfl rfl rfl rfl hB10 ?_
                        obtain ⟨x1236, h1237, hz1233⟩ := bsome hz1233
                        have hX := know_Set_List_nil0_ok Fu (S0 := snapAll _)  _ h1237 _ h.startAll
                        refine q_callX hX h rfl rfl rfl (by decide) Try.func12 rfl rfl rfl (fun a w v L1 S1 hR hb1 h => ?_)
                        obtain ⟨A1239, c1240, cs1241, rfl, rfl, hq1242, _⟩ := hR
                        have hq1243 := hq1242.fl (S' := S1194) fl_I
                        refine g_yes h rfl rfl rfl rfl hB10 ?_
                        refine sMV h (fun a h => ?_)
                        refine g_yes h rfl rfl rfl rfl hB10 ?_
                        obtain ⟨x1244, h1245, hz1233⟩ := bsome hz1233
                        have hX := know_Set_List_ok Fu (S0 := snapAll _) g1121 x1120.1 ⟨[.slice A1122 x1120.1.1.length c1123, .slice A1125 x1120.1.2.1.length c1126, .slice A1129 x1120.1.2.2.1.length c1130, .bool x1120.1.2.2.2], h.m.boxAll (i := 6) rfl, ⟨[.slice A1122 x1120.1.1.length c1123], [.slice A1125 x1120.1.2.1.length c1126, .slice A1129 x1120.1.2.2.1.length c1130, .bool x1120.1.2.2.2], rfl, ⟨_, _, rfl, ((hs1124.mono (((le1154.trans le1162).trans le1188).trans le1196))).mono (h.m.leAll (i := 5) rfl)⟩, ⟨[.slice A1125 x1120.1.2.1.length c1126], [.slice A1129 x1120.1.2.2.1.length c1130, .bool x1120.1.2.2.2], rfl, ⟨_, _, rfl, h.m.rowAll (i := 7) rfl (j := 5) rfl (hq1128.mono (((le1154.trans le1162).trans le1188).trans le1196))⟩, ⟨[.slice A1129 x1120.1.2.2.1.length c1130], [.bool x1120.1.2.2.2], rfl, ⟨_, _, rfl, h.m.rowAll (i := 8) rfl (j := 5) rfl (hq1132.mono (((le1154.trans le1162).trans le1188).trans le1196))⟩, rfl⟩⟩⟩⟩ _ h1245 _ h.startAll
                        refine q_callX hX h rfl rfl rfl (by decide) Try.func12 rfl rfl rfl (fun a w v L1 S1 hR hb1 h => ?_)
                        obtain ⟨A1247, c1248, cs1249, rfl, rfl, hq1250, _⟩ := hR
                        have hq1251 := hq1250.fl (S' := S1194) fl_I
                        refine g_yes h rfl rfl rfl rfl hB10 ?_
                        obtain ⟨x1252, h1253, hz1233⟩ := bsome hz1233
                        have hX := chatelaineref01_Ints_ok Fu (S0 := snapAll _) A1239 c1240 x1236 (h.m.rowAll (i := 1) rfl (j := 6) rfl hq1243) A1247 c1248 x1244 (h.m.rowAll (i := 0) rfl (j := 6) rfl hq1251) _ h1253 _ h.startAll
                        refine q_callX hX h rfl rfl rfl (by decide) Try.func11 rfl rfl rfl (fun a w v L1 S1 hR hb1 h => ?_)
                        obtain ⟨rfl, rfl, _⟩ := hR
                        refine g_yes h rfl rfl rfl rfl hB10 ?_
                        refine s_x h rfl rfl (by decide) (x_not h.k rfl rfl) (fun a h => ?_)
                        refine s_x h rfl rfl (by decide) (x_pick (u' := undef) h.k rfl rfl (fun hh => absurd (hB10.symm.trans hh) (by decide)) (fun _ => rfl)) (fun a h => ?_)
                        have h := h.pick [2, 3, 4, 5, 6, 7, 8, 9, 10] (by decide) rfl
                        exact (h.mid 6 rfl).val (by rw [Option.some.inj hz1233])
                      refine l_end ?_
                      refine c_cond h rfl (fun hb => ?_) (fun hb => ?_)
                      · rw [if_pos hb] at hf
                        refine c_rs ?_
                        refine sAV h (fun a h => ?_)
                        refine l_end ?_
                        refine wp_ret ?_
                        refine e_thenR ?_
                        rw [← Option.some.inj hf]
                        exact r_ret1 h rfl (rv_tmp h rfl) ⟨_, [], _, rfl, ⟨rfl, rfl, trivial⟩, rfl, up1195, (h.m.pick [4] _ (by decide) rfl)⟩
                      · rw [if_neg (by rw [hb]; decide)] at hf
                        refine wp_skip ?_
                        refine e_thenN ?_
                        refine wp_seq ?_
                        refine c_rs ?_
                        refine sMV h (fun a h => ?_)
                        obtain ⟨x1255, h1256, hf⟩ := bsome hf
                        have hX := know_Set_List_ok Fu (S0 := snapAll _) g581 (x580.1.1, x580.1.2.1, x580.1.2.2.1, x580.1.2.2.2) ((hp618.mono ((((le624.trans le1154).trans le1162).trans le1188).trans le1196)).mono (h.m.leAll (i := 4) rfl)) _ h1256 _ h.startAll
                        refine q_callX hX h rfl rfl rfl (by decide) Try.func12 rfl rfl rfl (fun a w v L1 S1 hR hb1 h => ?_)
                        obtain ⟨A1258, c1259, cs1260, rfl, rfl, hq1261, _⟩ := hR
                        have hq1262 := hq1261.fl (S' := S1194) fl_I
                        have hr1263 : r64 (x1255.length : Int) := len_r (h.m.rowLen (i := 0) rfl)
                        refine s_x h rfl rfl (by decide) (x_len h.k rfl Try.underlying23 rfl) (fun a h => ?_)
                        refine sMV h (fun a h => ?_)
                        refine l_end ?_
                        obtain ⟨o1264, hl1265, hf⟩ := bsome hf
                        refine c_fin (fun a w => (.inr ()) = o1264 ∧ St 136 w0 (ownL ([] ++ [.sn S0])) [] [.sn S1194] a w) ?_ ?_
                        · refine wp_block ?_
                          have h := h.pick [6, 7, 8, 0, 5] (by decide) rfl
                          refine c_loop (fun m1269 a w => ∃ (x1266 : Int), chatelainelaw37_KnowMore_l8 Fu x1120 x1255 m1269 x1266 = some o1264 ∧ r64 x1266 ∧ St 136 w0 (ownL ([] ++ [.sn S0])) [(14, .pointer (some ⟨g1121, 0, none⟩)), (125, .slice A1258 x1255.length c1259), (126, .int .i64 (x1255.length : Int)), (127, .int .i64 x1266)] [.box g1121 54 ([.slice A1122 x1120.1.1.length c1123, .slice A1125 x1120.1.2.1.length c1126, .slice A1129 x1120.1.2.2.1.length c1130, .bool x1120.1.2.2.2]), .row (.slice A1125 x1120.1.2.1.length c1126) 4 1 x1120.1.2.1.length cs1127, .row (.slice A1129 x1120.1.2.2.1.length c1130) 3 1 x1120.1.2.2.1.length cs1131, .row (.slice A1258 x1255.length c1259) 3 1 x1255.length cs1260, .sn S1194] a w) Fu ⟨0, hl1265, (show r64 0 from ⟨by decide, by decide⟩), h.has (by exact ⟨rfl, rfl, rfl, rfl, trivial⟩)⟩ (fun m1269 a w hI => ?_)
                          obtain ⟨x1266, hl1268, hr1267, h⟩ := hI
                          obtain _ | m1269 := m1269
                          · rw [chatelainelaw37_KnowMore_l8] at hl1268; cases hl1268
                          rw [chatelainelaw37_KnowMore_l8] at hl1268
                          refine c_rs ?_
                          refine s_x h rfl rfl (by decide) (x_bin h.k rfl rfl rfl ib_lss) (fun a h => ?_)
                          refine l_end ?_
                          refine c_cs h rfl (fun hb => ?_) (fun hb => ?_)
                          · rw [if_pos (of_decide_eq_true hb)] at hl1268
                            refine wp_skip ?_
                            refine e_thenN ?_
                            refine wp_seq ?_
                            refine wp_block ?_
                            refine c_rs ?_
                            obtain ⟨m1270, h1271, hl1268⟩ := bsome hl1268
                            obtain ⟨hi1272, hm1273⟩ := ix_some h1271
                            obtain ⟨g1275, hA1274⟩ := h.m.rowHead (i := 3) rfl (Nat.lt_of_le_of_lt (Nat.zero_le _) hm1273)
                            refine s_x h rfl rfl (by decide) (x_iaddrE h.k rfl Try.underlying23 sz_int hA1274 rfl rfl hi1272 hm1273) (fun a h => ?_)
                            obtain ⟨x1276, h1277, hl1268⟩ := bsome hl1268
                            obtain ⟨u1278, hv1279, hu1280⟩ := (hq1262).cell rfl h1277
                            obtain ⟨e1282, hr1281⟩ := hu1280
                            cases e1282
                            refine s_x h rfl rfl (by decide) (x_ld h.k rfl Try.underlying3 rfl rfl (h.m.cellRowE (i := 3) rfl hA1274 _ (by rw [Nat.mul_one]; exact hv1279))) (fun a h => ?_)
                            refine sAV h (fun a h => ?_)
                            refine l_end ?_
                            refine c_rs ?_
                            refine sMV h (fun a h => ?_)
                            refine sMV h (fun a h => ?_)
                            obtain ⟨x1283, h1284, hl1268⟩ := bsome hl1268
                            have hX := know_Set_Has_ok Fu (S0 := snapAll _) g1121 x1120.1 ⟨[.slice A1122 x1120.1.1.length c1123, .slice A1125 x1120.1.2.1.length c1126, .slice A1129 x1120.1.2.2.1.length c1130, .bool x1120.1.2.2.2], h.m.boxAll (i := 0) rfl, ⟨[.slice A1122 x1120.1.1.length c1123], [.slice A1125 x1120.1.2.1.length c1126, .slice A1129 x1120.1.2.2.1.length c1130, .bool x1120.1.2.2.2], rfl, ⟨_, _, rfl, ((hs1124.mono (((le1154.trans le1162).trans le1188).trans le1196))).mono (h.m.leAll (i := 4) rfl)⟩, ⟨[.slice A1125 x1120.1.2.1.length c1126], [.slice A1129 x1120.1.2.2.1.length c1130, .bool x1120.1.2.2.2], rfl, ⟨_, _, rfl, h.m.rowAll (i := 1) rfl (j := 4) rfl (hq1128.mono (((le1154.trans le1162).trans le1188).trans le1196))⟩, ⟨[.slice A1129 x1120.1.2.2.1.length c1130], [.bool x1120.1.2.2.2], rfl, ⟨_, _, rfl, h.m.rowAll (i := 2) rfl (j := 4) rfl (hq1132.mono (((le1154.trans le1162).trans le1188).trans le1196))⟩, rfl⟩⟩⟩⟩ x1276 hr1281 _ h1284 _ h.startAll
                            refine q_callX hX h rfl rfl rfl (by decide) Try.func10 rfl rfl rfl (fun a w v L1 S1 hR hb1 h => ?_)
                            obtain ⟨rfl, rfl, _⟩ := hR
                            refine s_x h rfl rfl (by decide) (x_not h.k rfl rfl) (fun a h => ?_)
                            refine l_end ?_
                            refine c_cond h rfl (fun hb => ?_) (fun hb => ?_)
                            · rw [if_pos hb] at hl1268
                              refine c_rs ?_
                              refine sAV h (fun a h => ?_)
                              refine l_end ?_
                              refine wp_ret ?_
                              refine e_blkR ?_
                              refine e_thenR ?_
                              refine e_thenR ?_
                              refine e_blkR ?_
                              refine e_thenR ?_
                              cases hl1268
                              try dsimp only at hf
                              refine e_thenR ?_
                              rw [← Option.some.inj hf]
                              exact r_ret1 h rfl (rv_tmp h rfl) ⟨_, [], _, rfl, ⟨rfl, rfl, trivial⟩, rfl, up1195, (h.m.pick [4] _ (by decide) rfl)⟩
                            · rw [if_neg (by rw [hb]; decide)] at hl1268
                              refine wp_skip ?_
                              refine e_blkN ?_
                              refine e_thenN ?_
                              refine c_r ?_
                              refine s_x h rfl rfl (by decide) (x_bin h.k rfl rfl rfl (ib_add rfl)) (fun a h => ?_)
                              refine sMV h (fun a h => ?_)
                              refine l_nil ?_
                              exact e_thenN ⟨m1269, Nat.lt_succ_self _, w64 (x1266 + 1), hl1268, (w64_r _), h.has (by exact ⟨rfl, rfl, rfl, rfl, trivial⟩)⟩
                          · rw [if_neg (of_decide_eq_false hb)] at hl1268
                            refine wp_exit ?_
                            refine e_thenX ?_
                            refine e_thenX ?_
                            refine e_blkX ?_
                            refine e_thenN ?_
                            have h := h.pick [4] (by decide) rfl
                            exact ⟨(Option.some.inj hl1268), h.has trivial⟩
                        · rintro a w ⟨rfl, h⟩
                          try dsimp only at hf
                          refine e_thenN ?_
                          refine c_rs ?_
                          refine sAV h (fun a h => ?_)
                          refine l_end ?_
                          refine wp_ret ?_
                          rw [← Option.some.inj hf]
                          exact r_ret1 h rfl (rv_tmp h rfl) ⟨_, [], _, rfl, ⟨rfl, rfl, trivial⟩, rfl, up1195, h.m⟩
                    · obtain ⟨x1287, rfl, hR⟩ := hR
                      dsimp only at hf
                      obtain ⟨g1288, A1289, c1290, A1292, c1293, cs1294, A1296, c1297, cs1298, A1301, c1302, cs1303, g1305, es1306, cl1307, g1309, es1310, cl1311, rfl, rfl, hs1291, hq1295, hq1299, hr1300, hq1304, hm1308, hm1312, _⟩ := hR
                      refine sMV h (fun a h => ?_)
                      refine s_x h rfl rfl (by decide) (x_ext h.k rfl rfl rfl) (fun a h => ?_)
                      refine s_x h rfl rfl (by decide) (x_ext h.k rfl rfl rfl) (fun a h => ?_)
                      refine sAV h (fun a h => ?_)
                      refine sAV h (fun a h => ?_)
                      refine l_end ?_
                      refine wp_seq ?_
                      refine c_rs ?_
                      refine sMV h (fun a h => ?_)
                      refine s_x h rfl rfl (by decide) (x_bin h.k rfl rfl rfl ib_neq) (fun a h => ?_)
                      refine sMV h (fun a h => ?_)
                      obtain ⟨z1314, hz1313, hf⟩ := bsome hf
                      refine q_grp h 7 (t := 108) 115 z1314 rfl (fun hB2 => ?_) (fun hB2 => ?_) (fun a w h => ?_)
                      · refine g_no h rfl rfl rfl rfl hB2 rfl (by decide) (fun a h => ?_)
                        refine g_no h rfl rfl rfl rfl hB2 rfl (by decide) (fun a h => ?_)
                        refine g_no h rfl rfl rfl rfl hB2 rfl (by decide) (fun a h => ?_)
                        refine g_no h rfl rfl rfl rfl hB2 rfl (by decide) (fun a h => ?_)
                        refine g_no h rfl rfl rfl rfl hB2 rfl (by decide) (fun a h => ?_)
                        refine g_no h rfl rfl rfl rfl hB2 rfl (by decide) (fun a h => ?_)
                        rw [if_pos (of_decide_eq_true hB2)] at hz1313
                        refine s_x h rfl rfl (by decide) (x_pick (u' := undef) h.k rfl rfl (fun _ => rfl) (fun hh => absurd (hB2.symm.trans hh) (by decide))) (fun a h => ?_)
                        exact (h.mid 6 rfl).val (by rw [Option.some.inj hz1313])
                      · rw [if_neg (of_decide_eq_false hB2)] at hz1313
                        refine g_yes h rfl rfl rfl rfl hB2 ?_
                        refine sMV h (fun a h => ?_)
                        refine g_yes h rfl rfl rfl rfl hB2 ?_
                        obtain ⟨x1316, h1317, hz1313⟩ := bsome hz1313
                        have hX := know_Set_List_ok Fu (S0 := snapAll _) g1121 x1120.1 ⟨[.slice A1122 x1120.1.1.length c1123, .slice A1125 x1120.1.2.1.length c1126, .slice A1129 x1120.1.2.2.1.length c1130, .bool x1120.1.2.2.2], h.m.boxAll (i := 8) rfl, ⟨[.slice A1122 x1120.1.1.length c1123], [.slice A1125 x1120.1.2.1.length c1126, .slice A1129 x1120.1.2.2.1.length c1130, .bool x1120.1.2.2.2], rfl, ⟨_, _, rfl, ((hs1124.mono (((le1154.trans le1162).trans le1188).trans le1196))).mono (h.m.leAll (i := 7) rfl)⟩, ⟨[.slice A1125 x1120.1.2.1.length c1126], [.slice A1129 x1120.1.2.2.1.length c1130, .bool x1120.1.2.2.2], rfl, ⟨_, _, rfl, h.m.rowAll (i := 9) rfl (j := 7) rfl (hq1128.mono (((le1154.trans le1162).trans le1188).trans le1196))⟩, ⟨[.slice A1129 x1120.1.2.2.1.length c1130], [.bool x1120.1.2.2.2], rfl, ⟨_, _, rfl, h.m.rowAll (i := 10) rfl (j := 7) rfl (hq1132.mono (((le1154.trans le1162).trans le1188).trans le1196))⟩, rfl⟩⟩⟩⟩ _ h1317 _ h.startAll
                        refine q_callX hX h rfl rfl rfl (by decide) Try.func12 rfl rfl rfl (fun a w v L1 S1 hR hb1 h => ?_)
                        obtain ⟨A1319, c1320, cs1321, rfl, rfl, hq1322, _⟩ := hR
                        have hq1323 := hq1322.fl (S' := S1194) fl_I
                        refine g_yes h rfl rfl rfl rfl hB2 ?_
                        refine sMV h (fun a h => ?_)
                        refine g_yes h rfl rfl rfl rfl hB2 ?_
                        obtain ⟨x1324, h1325, hz1313⟩ := bsome hz1313
                        have hX := know_Set_List_nil0_ok Fu (S0 := snapAll _)  _ h1325 _ h.startAll
                        refine q_callX hX h rfl rfl rfl (by decide) Try.func12 rfl rfl rfl (fun a w v L1 S1 hR hb1 h => ?_)
                        obtain ⟨A1327, c1328, cs1329, rfl, rfl, hq1330, _⟩ := hR
                        have hq1331 := hq1330.fl (S' := S1194) fl_I
                        refine g_yes h rfl rfl rfl rfl hB2 ?_
                        obtain ⟨x1332, h1333, hz1313⟩ := bsome hz1313
                        have hX := chatelaineref01_Ints_ok Fu (S0 := snapAll _) A1319 c1320 x1316 (h.m.rowAll (i := 1) rfl (j := 9) rfl hq1323) A1327 c1328 x1324 (h.m.rowAll (i := 0) rfl (j := 9) rfl hq1331) _ h1333 _ h.startAll
                        refine q_callX hX h rfl rfl rfl (by decide) Try.func11 rfl rfl rfl (fun a w v L1 S1 hR hb1 h => ?_)
                        obtain ⟨rfl, rfl, _⟩ := hR
                        refine g_yes h rfl rfl rfl rfl hB2 ?_
                        refine s_x h rfl rfl (by decide) (x_not h.k rfl rfl) (fun a h => ?_)
                        refine s_x h rfl rfl (by decide) (x_pick (u' := undef) h.k rfl rfl (fun hh => absurd (hB2.symm.trans hh) (by decide)) (fun _ => rfl)) (fun a h => ?_)
                        have h := h.pick [2, 3, 4, 5, 6, 7, 8, 9, 10, 11, 12, 13] (by decide) rfl
                        exact (h.mid 6 rfl).val (by rw [Option.some.inj hz1313])
                      refine sMV h (fun a h => ?_)
                      obtain ⟨z1336, hz1335, hf⟩ := bsome hf
                      refine q_grp h 7 (t := 116) 123 z1336 rfl (fun hB10 => ?_) (fun hB10 => ?_) (fun a w h => ?_)
                      · refine g_no h rfl rfl rfl rfl hB10 rfl (by decide) (fun a h => ?_)
                        refine g_no h rfl rfl rfl rfl hB10 rfl (by decide) (fun a h => ?_)
                        refine g_no h rfl rfl rfl rfl hB10 rfl (by decide) (fun a h => ?_)
                        refine g_no h rfl rfl rfl rfl hB10 rfl (by decide) (fun a h => ?_)
                        refine g_no h rfl rfl rfl rfl hB10 rfl (by decide) (fun a h => ?_)
                        refine g_no h rfl rfl rfl rfl hB10 rfl (by decide) (fun a h => ?_)
                        rw [if_pos hB10] at hz1335
                        refine s_x h rfl rfl (by decide) (x_pick (u' := undef) h.k rfl rfl (fun _ => rfl) (fun hh => absurd (hB10.symm.trans hh) (by decide))) (fun a h => ?_)
                        exact (h.mid 6 rfl).val (by rw [Option.some.inj hz1335])
                      · rw [if_neg (by rw [hB10]; decide)] at hz1335
                        refine g_yes h rfl rfl rfl rfl hB10 ?_
                        refine sMV h (fun a h => ?_)
                        refine g_yes h rfl rfl rfl rfl hB10 ?_
                        obtain ⟨x1338, h1339, hz1335⟩ := bsome hz1335
                        have hX := know_Set_List_ok Fu (S0 := snapAll _) g1288 x1287.1 ⟨[.slice A1289 x1287.1.1.length c1290, .slice A1292 x1287.1.2.1.length c1293, .slice A1296 x1287.1.2.2.1.length c1297, .bool x1287.1.2.2.2], h.m.boxAll (i := 0) rfl, ⟨[.slice A1289 x1287.1.1.length c1290], [.slice A1292 x1287.1.2.1.length c1293, .slice A1296 x1287.1.2.2.1.length c1297, .bool x1287.1.2.2.2], rfl, ⟨_, _, rfl, (hs1291).mono (h.m.leAll (i := 7) rfl)⟩, ⟨[.slice A1292 x1287.1.2.1.length c1293], [.slice A1296 x1287.1.2.2.1.length c1297, .bool x1287.1.2.2.2], rfl, ⟨_, _, rfl, h.m.rowAll (i := 1) rfl (j := 7) rfl hq1295⟩, ⟨[.slice A1296 x1287.1.2.2.1.length c1297], [.bool x1287.1.2.2.2], rfl, ⟨_, _, rfl, h.m.rowAll (i := 2) rfl (j := 7) rfl hq1299⟩, rfl⟩⟩⟩⟩ _ h1339 _ h.startAll
                        refine q_callX hX h rfl rfl rfl (by decide) Try.func12 rfl rfl rfl (fun a w v L1 S1 hR hb1 h => ?_)
                        obtain ⟨A1341, c1342, cs1343, rfl, rfl, hq1344, _⟩ := hR
                        have hq1345 := hq1344.fl (S' := S1194) fl_I
                        refine g_yes h rfl rfl rfl rfl hB10 ?_
                        refine sMV h (fun a h => ?_)
                        refine g_yes h rfl rfl rfl rfl hB10 ?_
                        obtain ⟨x1346, h1347, hz1335⟩ := bsome hz1335
                        have hX := know_Set_List_ok Fu (S0 := snapAll _) g1121 x1120.1 ⟨[.slice A1122 x1120.1.1.length c1123, .slice A1125 x1120.1.2.1.length c1126, .slice A1129 x1120.1.2.2.1.length c1130, .bool x1120.1.2.2.2], h.m.boxAll (i := 9) rfl, ⟨[.slice A1122 x1120.1.1.length c1123], [.slice A1125 x1120.1.2.1.length c1126, .slice A1129 x1120.1.2.2.1.length c1130, .bool x1120.1.2.2.2], rfl, ⟨_, _, rfl, ((hs1124.mono (((le1154.trans le1162).trans le1188).trans le1196))).mono (h.m.leAll (i := 8) rfl)⟩, ⟨[.slice A1125 x1120.1.2.1.length c1126], [.slice A1129 x1120.1.2.2.1.length c1130, .bool x1120.1.2.2.2], rfl, ⟨_, _, rfl, h.m.rowAll (i := 10) rfl (j := 8) rfl (hq1128.mono (((le1154.trans le1162).trans le1188).trans le1196))⟩, ⟨[.slice A1129 x1120.1.2.2.1.length c1130], [.bool x1120.1.2.2.2], rfl, ⟨_, _, rfl, h.m.rowAll (i := 11) rfl (j := 8) rfl (hq1132.mono (((le1154.trans le1162).trans le1188).trans le1196))⟩, rfl⟩⟩⟩⟩ _ h1347 _ h.startAll
                        refine q_callX hX h rfl rfl rfl (by decide) Try.func12 rfl rfl rfl (fun a w v L1 S1 hR hb1 h => ?_)
                        obtain ⟨A1349, c1350, cs1351, rfl, rfl, hq1352, _⟩ := hR
                        have hq1353 := hq1352.fl (S' := S1194) fl_I
                        refine g_yes h rfl rfl rfl rfl hB10 ?_
                        obtain ⟨x1354, h1355, hz1335⟩ := bsome hz1335
                        have hX := chatelaineref01_Ints_ok Fu (S0 := snapAll _) A1341 c1342 x1338 (h.m.rowAll (i := 1) rfl (j := 9) rfl hq1345) A1349 c1350 x1346 (h.m.rowAll (i := 0) rfl (j := 9) rfl hq1353) _ h1355 _ h.startAll
                        refine q_callX hX h rfl rfl rfl (by decide) Try.func11 rfl rfl rfl (fun a w v L1 S1 hR hb1 h => ?_)
                        obtain ⟨rfl, rfl, _⟩ := hR
                        refine g_yes h rfl rfl rfl rfl hB10 ?_
                        refine s_x h rfl rfl (by decide) (x_not h.k rfl rfl) (fun a h => ?_)
                        refine s_x h rfl rfl (by decide) (x_pick (u' := undef) h.k rfl rfl (fun hh => absurd (hB10.symm.trans hh) (by decide)) (fun _ => rfl)) (fun a h => ?_)
                        have h := h.pick [2, 3, 4, 5, 6, 7, 8, 9, 10, 11, 12, 13] (by decide) rfl
                        exact (h.mid 6 rfl).val (by rw [Option.some.inj hz1335])
                      refine l_end ?_
                      refine c_cond h rfl (fun hb => ?_) (fun hb => ?_)
                      · rw [if_pos hb] at hf
                        refine c_rs ?_
                        refine sAV h (fun a h => ?_)
                        refine l_end ?_
                        refine wp_ret ?_
                        refine e_thenR ?_
                        rw [← Option.some.inj hf]
                        exact r_ret1 h rfl (rv_tmp h rfl) ⟨_, [], _, rfl, ⟨rfl, rfl, trivial⟩, rfl, up1195, (h.m.pick [7] _ (by decide) rfl)⟩
                      · rw [if_neg (by rw [hb]; decide)] at hf
                        refine wp_skip ?_
                        refine e_thenN ?_
                        refine wp_seq ?_
                        refine c_rs ?_
                        refine sMV h (fun a h => ?_)
                        obtain ⟨x1357, h1358, hf⟩ := bsome hf
                        have hX := know_Set_List_ok Fu (S0 := snapAll _) g581 (x580.1.1, x580.1.2.1, x580.1.2.2.1, x580.1.2.2.2) ((hp618.mono ((((le624.trans le1154).trans le1162).trans le1188).trans le1196)).mono (h.m.leAll (i := 7) rfl)) _ h1358 _ h.startAll
                        refine q_callX hX h rfl rfl rfl (by decide) Try.func12 rfl rfl rfl (fun a w v L1 S1 hR hb1 h => ?_)
                        obtain ⟨A1360, c1361, cs1362, rfl, rfl, hq1363, _⟩ := hR
                        have hq1364 := hq1363.fl (S' := S1194) fl_I
                        have hr1365 : r64 (x1357.length : Int) := len_r (h.m.rowLen (i := 0) rfl)
                        refine s_x h rfl rfl (by decide) (x_len h.k rfl Try.underlying23 rfl) (fun a h => ?_)
                        refine sMV h (fun a h => ?_)
                        refine l_end ?_
                        obtain ⟨o1366, hl1367, hf⟩ := bsome hf
                        refine c_fin (fun a w => (.inr ()) = o1366 ∧ St 136 w0 (ownL ([] ++ [.sn S0])) [] [.sn S1194] a w) ?_ ?_
                        · refine wp_block ?_
                          have h := h.pick [9, 10, 11, 0, 8] (by decide) rfl
                          refine c_loop (fun m1371 a w => ∃ (x1368 : Int), chatelainelaw37_KnowMore_l9 Fu x1120 x1357 m1371 x1368 = some o1366 ∧ r64 x1368 ∧ St 136 w0 (ownL ([] ++ [.sn S0])) [(14, .pointer (some ⟨g1121, 0, none⟩)), (125, .slice A1360 x1357.length c1361), (126, .int .i64 (x1357.length : Int)), (127, .int .i64 x1368)] [.box g1121 54 ([.slice A1122 x1120.1.1.length c1123, .slice A1125 x1120.1.2.1.length c1126, .slice A1129 x1120.1.2.2.1.length c1130, .bool x1120.1.2.2.2]), .row (.slice A1125 x1120.1.2.1.length c1126) 4 1 x1120.1.2.1.length cs1127, .row (.slice A1129 x1120.1.2.2.1.length c1130) 3 1 x1120.1.2.2.1.length cs1131, .row (.slice A1360 x1357.length c1361) 3 1 x1357.length cs1362, .sn S1194] a w) Fu ⟨0, hl1367, (show r64 0 from ⟨by decide, by decide⟩), h.has (by exact ⟨rfl, rfl, rfl, rfl, trivial⟩)⟩ (fun m1371 a w hI => ?_)
                          obtain ⟨x1368, hl1370, hr1369, h⟩ := hI
                          obtain _ | m1371 := m1371
                          · rw [chatelainelaw37_KnowMore_l9] at hl1370; cases hl1370
                          rw [chatelainelaw37_KnowMore_l9] at hl1370
                          refine c_rs ?_
                          refine s_x h rfl rfl (by decide) (x_bin h.k rfl rfl rfl ib_lss) (fun a h => ?_)
                          refine l_end ?_
                          refine c_cs h rfl (fun hb => ?_) (fun hb => ?_)
                          · rw [if_pos (of_decide_eq_true hb)] at hl1370
                            refine wp_skip ?_
                            refine e_thenN ?_
                            refine wp_seq ?_
                            refine wp_block ?_
                            refine c_rs ?_
                            obtain ⟨m1372, h1373, hl1370⟩ := bsome hl1370
                            obtain ⟨hi1374, hm1375⟩ := ix_some h1373
                            obtain ⟨g1377, hA1376⟩ := h.m.rowHead (i := 3) rfl (Nat.lt_of_le_of_lt (Nat.zero_le _) hm1375)
                            refine s_x h rfl rfl (by decide) (x_iaddrE h.k rfl Try.underlying23 sz_int hA1376 rfl rfl hi1374 hm1375) (fun a h => ?_)
                            obtain ⟨x1378, h1379, hl1370⟩ := bsome hl1370
                            obtain ⟨u1380, hv1381, hu1382⟩ := (hq1364).cell rfl h1379
                            obtain ⟨e1384, hr1383⟩ := hu1382
                            cases e1384
                            refine s_x h rfl rfl (by decide) (x_ld h.k rfl Try.underlying3 rfl rfl (h.m.cellRowE (i := 3) rfl hA1376 _ (by rw [Nat.mul_one]; exact hv1381))) (fun a h => ?_)
                            refine sAV h (fun a h => ?_)
                            refine l_end ?_
                            refine c_rs ?_
                            refine sMV h (fun a h => ?_)
                            refine sMV h (fun a h => ?_)
                            obtain ⟨x1385, h1386, hl1370⟩ := bsome hl1370
                            have hX := know_Set_Has_ok Fu (S0 := snapAll _) g1121 x1120.1 ⟨[.slice A1122 x1120.1.1.length c1123, .slice A1125 x1120.1.2.1.length c1126, .slice A1129 x1120.1.2.2.1.length c1130, .bool x1120.1.2.2.2], h.m.boxAll (i := 0) rfl, ⟨[.slice A1122 x1120.1.1.length c1123], [.slice A1125 x1120.1.2.1.length c1126, .slice A1129 x1120.1.2.2.1.length c1130, .bool x1120.1.2.2.2], rfl, ⟨_, _, rfl, ((hs1124.mono (((le1154.trans le1162).trans le1188).trans le1196))).mono (h.m.leAll (i := 4) rfl)⟩, ⟨[.slice A1125 x1120.1.2.1.length c1126], [.slice A1129 x1120.1.2.2.1.length c1130, .bool x1120.1.2.2.2], rfl, ⟨_, _, rfl, h.m.rowAll (i := 1) rfl (j := 4) rfl (hq1128.mono (((le1154.trans le1162).trans le1188).trans le1196))⟩, ⟨[.slice A1129 x1120.1.2.2.1.length c1130], [.bool x1120.1.2.2.2], rfl, ⟨_, _, rfl, h.m.rowAll (i := 2) rfl (j := 4) rfl (hq1132.mono (((le1154.trans le1162).trans le1188).trans le1196))⟩, rfl⟩⟩⟩⟩ x1378 hr1383 _ h1386 _ h.startAll
                            refine q_callX hX h rfl rfl rfl (by decide) Try.func10 rfl rfl rfl (fun a w v L1 S1 hR hb1 h => ?_)
                            obtain ⟨rfl, rfl, _⟩ := hR
                            refine s_x h rfl rfl (by decide) (x_not h.k rfl rfl) (fun a h => ?_)
                            refine l_end ?_
                            refine c_cond h rfl (fun hb => ?_) (fun hb => ?_)
                            · rw [if_pos hb] at hl1370
                              refine c_rs ?_
                              refine sAV h (fun a h => ?_)
                              refine l_end ?_
                              refine wp_ret ?_
                              refine e_blkR ?_
                              refine e_thenR ?_
                              refine e_thenR ?_
                              refine e_blkR ?_
                              refine e_thenR ?_
                              cases hl1370
                              try dsimp only at hf
                              refine e_thenR ?_
                              rw [← Option.some.inj hf]
                              exact r_ret1 h rfl (rv_tmp h rfl) ⟨_, [], _, rfl, ⟨rfl, rfl, trivial⟩, rfl, up1195, (h.m.pick [4] _ (by decide) rfl)⟩
                            · rw [if_neg (by rw [hb]; decide)] at hl1370
                              refine wp_skip ?_
                              refine e_blkN ?_
                              refine e_thenN ?_
                              refine c_r ?_
                              refine s_x h rfl rfl (by decide) (x_bin h.k rfl rfl rfl (ib_add rfl)) (fun a h => ?_)
                              refine sMV h (fun a h => ?_)
                              refine l_nil ?_
                              exact e_thenN ⟨m1371, Nat.lt_succ_self _, w64 (x1368 + 1), hl1370, (w64_r _), h.has (by exact ⟨rfl, rfl, rfl, rfl, trivial⟩)⟩
                          · rw [if_neg (of_decide_eq_false hb)] at hl1370
                            refine wp_exit ?_
                            refine e_thenX ?_
                            refine e_thenX ?_
                            refine e_blkX ?_
                            refine e_thenN ?_
                            have h := h.pick [4] (by decide) rfl
                            exact ⟨(Option.some.inj hl1370), h.has trivial⟩
                        · rintro a w ⟨rfl, h⟩
                          try dsimp only at hf
                          refine e_thenN ?_
                          refine c_rs ?_
                          refine sAV h (fun a h => ?_)
                          refine l_end ?_
                          refine wp_ret ?_
                          rw [← Option.some.inj hf]
                          exact r_ret1 h rfl (rv_tmp h rfl) ⟨_, [], _, rfl, ⟨rfl, rfl, trivial⟩, rfl, up1195, h.m⟩
              · obtain ⟨x1389, rfl, hR⟩ := hR
                dsimp only at hf
                obtain ⟨g1390, A1391, c1392, A1394, c1395, cs1396, A1398, c1399, cs1400, A1403, c1404, cs1405, g1407, es1408, cl1409, g1411, es1412, cl1413, rfl, rfl, hs1393, hq1397, hq1401, hr1402, hq1406, hm1410, hm1414, _⟩ := hR
                refine sMV h (fun a h => ?_)
                refine s_x h rfl rfl (by decide) (x_ext h.k rfl rfl rfl) (fun a h => ?_)
                refine s_x h rfl rfl (by decide) (x_ext h.k rfl rfl rfl) (fun a h => ?_)
                refine sAV h (fun a h => ?_)
                refine sAV h (fun a h => ?_)
                refine l_end ?_
                refine wp_seq ?_
                refine c_rs ?_
                refine sMV h (fun a h => ?_)
                refine sMV h (fun a h => ?_)
                refine s_x h rfl rfl (by decide) (x_bin h.k rfl rfl rfl ib_neq) (fun a h => ?_)
                refine l_end ?_
                refine c_cond h rfl (fun hb => ?_) (fun hb => ?_)
                · rw [if_pos (of_decide_eq_true hb)] at hf
                  refine c_rs ?_
                  refine sAV h (fun a h => ?_)
                  refine l_end ?_
                  refine wp_ret ?_
                  refine e_thenR ?_
                  rw [← Option.some.inj hf]
                  exact r_ret1 h rfl (rv_tmp h rfl) ⟨_, [], _, rfl, ⟨rfl, rfl, trivial⟩, rfl, up1161, (h.m.pick [7] _ (by decide) rfl)⟩
                · rw [if_neg (of_decide_eq_false hb)] at hf
                  refine wp_skip ?_
                  refine e_thenN ?_
                  refine wp_seq ?_
                  refine c_rs ?_
                  refine sMV h (fun a h => ?_)
                  refine s_x h rfl rfl (by decide) (x_bin h.k rfl rfl rfl ib_neq) (fun a h => ?_)
                  refine l_end ?_
                  refine c_cond h rfl (fun hb => ?_) (fun hb => ?_)
                  · rw [if_pos (of_decide_eq_true hb)] at hf
                    refine c_rs ?_
                    refine sMV h (fun a h => ?_)
                    refine s_x h rfl rfl (by decide) (x_eql_pn h.k rfl Try.underlying25 rfl rfl) (fun a h => ?_)
                    refine sMV h (fun a h => ?_)
                    refine q_grp h 3 (t := 95) 98 false rfl (fun hB2 => ?_) (fun hB2 => ?_) (fun a w h => ?_)
                    · exact absurd hB2 (by decide)
                    · refine g_no h rfl rfl rfl rfl hB2 rfl (by decide) (fun a h => ?_)
                      refine g_no h rfl rfl rfl rfl hB2 rfl (by decide) (fun a h => ?_)
                      refine s_x h rfl rfl (by decide) (x_pick (u' := undef) h.k rfl rfl (fun hh => absurd (hB2.symm.trans hh) (by decide)) (fun _ => rfl)) (fun a h => ?_)
                      exact (h.mid 2 rfl).val (by first | rfl | (rw [hB2]; first | rfl | simp))
                    refine sAV h (fun a h => ?_)
                    refine l_end ?_
                    refine wp_ret ?_
                    refine e_thenR ?_
                    rw [← Option.some.inj hf]
                    exact r_ret1 h rfl (rv_tmp h rfl) ⟨_, [], _, rfl, ⟨rfl, rfl, trivial⟩, rfl, up1161, (h.m.pick [7] _ (by decide) rfl)⟩
                  · rw [if_neg (of_decide_eq_false hb)] at hf
                    refine wp_skip ?_
                    refine e_thenN ?_
                    refine c_rs ?_
                    refine sMV h (fun a h => ?_)
                    refine sMV h (fun a h => ?_)
                    obtain ⟨x1417, h1418, hf⟩ := bsome hf
                    have hX := know_Set_List_ok Fu (S0 := snapAll _) g1121 x1120.1 ⟨[.slice A1122 x1120.1.1.length c1123, .slice A1125 x1120.1.2.1.length c1126, .slice A1129 x1120.1.2.2.1.length c1130, .bool x1120.1.2.2.2], h.m.boxAll (i := 8) rfl, ⟨[.slice A1122 x1120.1.1.length c1123], [.slice A1125 x1120.1.2.1.length c1126, .slice A1129 x1120.1.2.2.1.length c1130, .bool x1120.1.2.2.2], rfl, ⟨_, _, rfl, ((hs1124.mono (le1154.trans le1162))).mono (h.m.leAll (i := 7) rfl)⟩, ⟨[.slice A1125 x1120.1.2.1.length c1126], [.slice A1129 x1120.1.2.2.1.length c1130, .bool x1120.1.2.2.2], rfl, ⟨_, _, rfl, h.m.rowAll (i := 9) rfl (j := 7) rfl (hq1128.mono (le1154.trans le1162))⟩, ⟨[.slice A1129 x1120.1.2.2.1.length c1130], [.bool x1120.1.2.2.2], rfl, ⟨_, _, rfl, h.m.rowAll (i := 10) rfl (j := 7) rfl (hq1132.mono (le1154.trans le1162))⟩, rfl⟩⟩⟩⟩ _ h1418 _ h.startAll
                    refine q_callX hX h rfl rfl rfl (by decide) Try.func12 rfl rfl rfl (fun a w v L1 S1 hR hb1 h => ?_)
                    obtain ⟨A1420, c1421, cs1422, rfl, rfl, hq1423, _⟩ := hR
                    have hq1424 := hq1423.fl (S' := S1160) fl_I
                    have h := h.pick [0, 8, 1, 2, 3, 4, 5, 6, 7, 9, 10, 11, 12] (by decide) rfl
                    obtain ⟨S1425, le1426, up1427, hs1428, h⟩ := q_freeze (T := tyI) h up1161 hq1424
                    obtain ⟨x1429, h1430, hf⟩ := bsome hf
                    have h := h.pick [4, 5, 6, 7, 0, 1, 2, 3, 8, 9, 10, 11] (by decide) rfl
                    have hX := know_From_ok Fu (S0 := S1425) x1389.2.2 g43 A1403 c1404 cs1405 g1407 es1408 cl1409 g1411 es1412 cl1413 (hq1406.mono le1426) (hm1410.mono le1426) (hm1414.mono le1426) A1420 c1421 x1417 hs1428 _ h1430 _ (h.sub (Ls := [.box g43 52 ([.slice A1403 x1389.2.2.1.length c1404, .map (some g1407), .map (some g1411)]), .row (.slice A1403 x1389.2.2.1.length c1404) 46 3 x1389.2.2.1.length cs1405, .obj g1407 (.map es1408 cl1409), .obj g1411 (.map es1412 cl1413)]))
                    refine q_callY (Ls := [.box g43 52 ([.slice A1403 x1389.2.2.1.length c1404, .map (some g1407), .map (some g1411)]), .row (.slice A1403 x1389.2.2.1.length c1404) 46 3 x1389.2.2.1.length cs1405, .obj g1407 (.map es1408 cl1409), .obj g1411 (.map es1412 cl1413)]) hX h up1427 rfl rfl rfl (by decide) Try.func6 rfl rfl rfl (fun a w v L1 S1432 hR le1434 up1433 h => ?_)
                    rcases hR with hR | hR
                    · obtain ⟨x1435, rfl, hR⟩ := hR
                      dsimp only at hf
                      obtain ⟨A1437, c1438, cs1439, g1441, es1442, cl1443, g1445, es1446, cl1447, rfl, rfl, hr1436, hq1440, hm1444, hm1448, _⟩ := hR
                      refine sMV h (fun a h => ?_)
                      refine s_x h rfl rfl (by decide) (x_ext h.k rfl rfl rfl) (fun a h => ?_)
                      refine s_x h rfl rfl (by decide) (x_ext h.k rfl rfl rfl) (fun a h => ?_)
                      refine sAV h (fun a h => ?_)
                      refine sAV h (fun a h => ?_)
                      refine l_end ?_
                      refine wp_seq ?_
                      refine c_rs ?_
                      refine sMV h (fun a h => ?_)
                      refine s_x h rfl rfl (by decide) (x_bin h.k rfl rfl rfl ib_neq) (fun a h => ?_)
                      refine sMV h (fun a h => ?_)
                      obtain ⟨z1450, hz1449, hf⟩ := bsome hf
                      refine q_grp h 7 (t := 108) 115 z1450 rfl (fun hB2 => ?_) (fun hB2 => ?_) (fun a w h => ?_)
                      · refine g_no h rfl rfl rfl rfl hB2 rfl (by decide) (fun a h => ?_)
                        refine g_no h rfl rfl rfl rfl hB2 rfl (by decide) (fun a h => ?_)
                        refine g_no h rfl rfl rfl rfl hB2 rfl (by decide) (fun a h => ?_)
                        refine g_no h rfl rfl rfl rfl hB2 rfl (by decide) (fun a h => ?_)
                        refine g_no h rfl rfl rfl rfl hB2 rfl (by decide) (fun a h => ?_)
                        refine g_no h rfl rfl rfl rfl hB2 rfl (by decide) (fun a h => ?_)
                        rw [if_pos (of_decide_eq_true hB2)] at hz1449
                        refine s_x h rfl rfl (by decide) (x_pick (u' := undef) h.k rfl rfl (fun _ => rfl) (fun hh => absurd (hB2.symm.trans hh) (by decide))) (fun a h => ?_)
                        exact (h.mid 6 rfl).val (by rw [Option.some.inj hz1449])
                      · rw [if_neg (of_decide_eq_false hB2)] at hz1449
                        refine g_yes h rfl rfl rfl rfl hB2 ?_
                        refine sMV h (fun a h => ?_)
                        refine g_yes h rfl rfl rfl rfl hB2 ?_
                        obtain ⟨x1452, h1453, hz1449⟩ := bsome hz1449
                        have hX := know_Set_List_ok Fu (S0 := snapAll _) g1121 x1120.1 ⟨[.slice A1122 x1120.1.1.length c1123, .slice A1125 x1120.1.2.1.length c1126, .slice A1129 x1120.1.2.2.1.length c1130, .bool x1120.1.2.2.2], h.m.boxAll (i := 8) rfl, ⟨[.slice A1122 x1120.1.1.length c1123], [.slice A1125 x1120.1.2.1.length c1126, .slice A1129 x1120.1.2.2.1.length c1130, .bool x1120.1.2.2.2], rfl, ⟨_, _, rfl, ((hs1124.mono (((le1154.trans le1162).trans le1426).trans le1434))).mono (h.m.leAll (i := 4) rfl)⟩, ⟨[.slice A1125 x1120.1.2.1.length c1126], [.slice A1129 x1120.1.2.2.1.length c1130, .bool x1120.1.2.2.2], rfl, ⟨_, _, rfl, h.m.rowAll (i := 9) rfl (j := 4) rfl (hq1128.mono (((le1154.trans le1162).trans le1426).trans le1434))⟩, ⟨[.slice A1129 x1120.1.2.2.1.length c1130], [.bool x1120.1.2.2.2], rfl, ⟨_, _, rfl, h.m.rowAll (i := 10) rfl (j := 4) rfl (hq1132.mono (((le1154.trans le1162).trans le1426).trans le1434))⟩, rfl⟩⟩⟩⟩ _ h1453 _ h.startAll
                        refine q_callX hX h rfl rfl rfl (by decide) Try.func12 rfl rfl rfl (fun a w v L1 S1 hR hb1 h => ?_)
                        obtain ⟨A1455, c1456, cs1457, rfl, rfl, hq1458, _⟩ := hR
                        have hq1459 := hq1458.fl (S' := S1432) fl_I
                        refine g_yes h rfl rfl rfl rfl hB2 ?_
                        refine sMV h (fun a h => ?_)
                        refine g_yes h rfl rfl rfl rfl hB2 ?_
                        obtain ⟨x1460, h1461, hz1449⟩ := bsome hz1449
                        have hX := know_Set_List_ok Fu (S0 := snapAll _) g1390 x1389.1 ⟨[.slice A1391 x1389.1.1.length c1392, .slice A1394 x1389.1.2.1.length c1395, .slice A1398 x1389.1.2.2.1.length c1399, .bool x1389.1.2.2.2], h.m.boxAll (i := 6) rfl, ⟨[.slice A1391 x1389.1.1.length c1392], [.slice A1394 x1389.1.2.1.length c1395, .slice A1398 x1389.1.2.2.1.length c1399, .bool x1389.1.2.2.2], rfl, ⟨_, _, rfl, ((hs1393.mono (le1426.trans le1434))).mono (h.m.leAll (i := 5) rfl)⟩, ⟨[.slice A1394 x1389.1.2.1.length c1395], [.slice A1398 x1389.1.2.2.1.length c1399, .bool x1389.1.2.2.2], rfl, ⟨_, _, rfl, h.m.rowAll (i := 7) rfl (j := 5) rfl (hq1397.mono (le1426.trans le1434))⟩, ⟨[.slice A1398 x1389.1.2.2.1.length c1399], [.bool x1389.1.2.2.2], rfl, ⟨_, _, rfl, h.m.rowAll (i := 8) rfl (j := 5) rfl (hq1401.mono (le1426.trans le1434))⟩, rfl⟩⟩⟩⟩ _ h1461 _ h.startAll
                        refine q_callX hX h rfl rfl rfl (by decide) Try.func12 rfl rfl rfl (fun a w v L1 S1 hR hb1 h => ?_)
                        obtain ⟨A1463, c1464, cs1465, rfl, rfl, hq1466, _⟩ := hR
                        have hq1467 := hq1466.fl (S' := S1432) fl_I
                        refine g_yes h rfl rfl rfl rfl hB2 ?_
                        obtain ⟨x1468, h1469, hz1449⟩ := bsome hz1449
                        have hX := chatelaineref01_Ints_ok Fu (S0 := snapAll _) A1455 c1456 x1452 (h.m.rowAll (i := 1) rfl (j := 6) rfl hq1459) A1463 c1464 x1460 (h.m.rowAll (i := 0) rfl (j := 6) rfl hq1467) _ h1469 _ h.startAll
                        refine q_callX hX h rfl rfl rfl (by decide) Try.func11 rfl rfl rfl (fun a w v L1 S1 hR hb1 h => ?_)
                        obtain ⟨rfl, rfl, _⟩ := hR
                        refine g_yes h rfl rfl rfl rfl hB2 ?_
                        refine s_x h rfl rfl (by decide) (x_not h.k rfl rfl) (fun a h => ?_)
                        refine s_x h rfl rfl (by decide) (x_pick (u' := undef) h.k rfl rfl (fun hh => absurd (hB2.symm.trans hh) (by decide)) (fun _ => rfl)) (fun a h => ?_)
                        have h := h.pick [2, 3, 4, 5, 6, 7, 8, 9, 10, 11, 12, 13] (by decide) rfl
                        exact (h.mid 6 rfl).val (by rw [Option.some.inj hz1449])
                      refine sMV h (fun a h => ?_)
                      obtain ⟨z1472, hz1471, hf⟩ := bsome hf
                      refine q_grp h 7 (t := 116) 123 z1472 rfl (fun hB10 => ?_) (fun hB10 => ?_) (fun a w h => ?_)
                      · refine g_no h rfl rfl rfl rfl hB10 rfl (by decide) (fun a h => ?_)
                        refine g_no h rfl rfl rfl rfl hB10 rfl (by decide) (fun a h => ?_)
                        refine g_no h rfl rfl rfl rfl hB10 rfl (by decide) (fun a h => ?_)
                        refine g_no h rfl rfl rfl rfl hB10 rfl (by decide) (fun a h => ?_)
                        refine g_no h rfl rfl rfl rfl hB10 rfl (by decide) (fun a h => ?_)
                        refine g_no h rfl rfl rfl rfl hB10 rfl (by decide) (fun a h => ?_)
                        rw [if_pos hB10] at hz1471
                        refine s_x h rfl rfl (by decide) (x_pick (u' := undef) h.k rfl rfl (fun _ => rfl) (fun hh => absurd (hB10.symm.trans hh) (by decide))) (fun a h => ?_)
                        exact (h.mid 6 rfl).val (by rw [Option.some.inj hz1471])
                      · rw [if_neg (by rw [hB10]; decide)] at hz1471
                        refine g_yes h rfl rfl rfl rfl hB10 ?_
                        refine sMV h (fun a h => ?_)
                        refine g_yes h rfl rfl rfl rfl hB10 ?_
                        obtain ⟨x1474, h1475, hz1471⟩ := bsome hz1471
                        have hX := know_Set_List_nil0_ok Fu (S0 := snapAll _)  _ h1475 _ h.startAll
                        refine q_callX hX h rfl rfl rfl (by decide) Try.func12 rfl rfl rfl (fun a w v L1 S1 hR hb1 h => ?_)
                        obtain ⟨A1477, c1478, cs1479, rfl, rfl, hq1480, _⟩ := hR
                        have hq1481 := hq1480.fl (S' := S1432) fl_I
                        refine g_yes h rfl rfl rfl rfl hB10 ?_
                        refine sMV h (fun a h => ?_)
                        refine g_yes h rfl rfl rfl rfl hB10 ?_
                        obtain ⟨x1482, h1483, hz1471⟩ := bsome hz1471
                        have hX := know_Set_List_ok Fu (S0 := snapAll _) g1121 x1120.1 ⟨[.slice A1122 x1120.1.1.length c1123, .slice A1125 x1120.1.2.1.length c1126, .slice A1129 x1120.1.2.2.1.length c1130, .bool x1120.1.2.2.2], h.m.boxAll (i := 9) rfl, ⟨[.slice A1122 x1120.1.1.length c1123], [.slice A1125 x1120.1.2.1.length c1126, .slice A1129 x1120.1.2.2.1.length c1130, .bool x1120.1.2.2.2], rfl, ⟨_, _, rfl, ((hs1124.mono (((le1154.trans le1162).trans le1426).trans le1434))).mono (h.m.leAll (i := 5) rfl)⟩, ⟨[.slice A1125 x1120.1.2.1.length c1126], [.slice A1129 x1120.1.2.2.1.length c1130, .bool x1120.1.2.2.2], rfl, ⟨_, _, rfl, h.m.rowAll (i := 10) rfl (j := 5) rfl (hq1128.mono (((le1154.trans le1162).trans le1426).trans le1434))⟩, ⟨[.slice A1129 x1120.1.2.2.1.length c1130], [.bool x1120.1.2.2.2], rfl, ⟨_, _, rfl, h.m.rowAll (i := 11) rfl (j := 5) rfl (hq1132.mono (((le1154.trans le1162).trans le1426).trans le1434))⟩, rfl⟩⟩⟩⟩ _ h1483 _ h.startAll
                        refine q_callX hX h rfl rfl rfl (by decide) Try.func12 rfl rfl rfl (fun a w v L1 S1 hR hb1 h => ?_)
                        obtain ⟨A1485, c1486, cs1487, rfl, rfl, hq1488, _⟩ := hR
                        have hq1489 := hq1488.fl (S' := S1432) fl_I
                        refine g_yes h rfl rfl rfl rfl hB10 ?_
                        obtain ⟨x1490, h1491, hz1471⟩ := bsome hz1471
                        have hX := chatelaineref01_Ints_ok Fu (S0 := snapAll _) A1477 c1478 x1474 (h.m.rowAll (i := 1) rfl (j := 6) rfl hq1481) A1485 c1486 x1482 (h.m.rowAll (i := 0) rfl (j := 6) rfl hq1489) _ h1491 _ h.startAll
                        refine q_callX hX h rfl rfl rfl (by decide) Try.func11 rfl rfl rfl (fun a w v L1 S1 hR hb1 h => ?_)
                        obtain ⟨rfl, rfl, _⟩ := hR
                        refine g_yes h rfl rfl rfl rfl hB10 ?_
                        refine s_x h rfl rfl (by decide) (x_not h.k rfl rfl) (fun a h => ?_)
                        refine s_x h rfl rfl (by decide) (x_pick (u' := undef) h.k rfl rfl (fun hh => absurd (hB10.symm.trans hh) (by decide)) (fun _ => rfl)) (fun a h => ?_)
                        have h := h.pick [2, 3, 4, 5, 6, 7, 8, 9, 10, 11, 12, 13] (by decide) rfl
                        exact (h.mid 6 rfl).val (by rw [Option.some.inj hz1471])
                      refine l_end ?_
                      refine c_cond h rfl (fun hb => ?_) (fun hb => ?_)
                      · rw [if_pos hb] at hf
                        refine c_rs ?_
                        refine sAV h (fun a h => ?_)
                        refine l_end ?_
                        refine wp_ret ?_
                        refine e_thenR ?_
                        rw [← Option.some.inj hf]
                        exact r_ret1 h rfl (rv_tmp h rfl) ⟨_, [], _, rfl, ⟨rfl, rfl, trivial⟩, rfl, up1433, (h.m.pick [4] _ (by decide) rfl)⟩
                      · rw [if_neg (by rw [hb]; decide)] at hf
                        refine wp_skip ?_
                        refine e_thenN ?_
                        refine wp_seq ?_
                        refine c_rs ?_
                        refine sMV h (fun a h => ?_)
                        obtain ⟨x1493, h1494, hf⟩ := bsome hf
                        have hX := know_Set_List_ok Fu (S0 := snapAll _) g581 (x580.1.1, x580.1.2.1, x580.1.2.2.1, x580.1.2.2.2) ((hp618.mono ((((le624.trans le1154).trans le1162).trans le1426).trans le1434)).mono (h.m.leAll (i := 4) rfl)) _ h1494 _ h.startAll
                        refine q_callX hX h rfl rfl rfl (by decide) Try.func12 rfl rfl rfl (fun a w v L1 S1 hR hb1 h => ?_)
                        obtain ⟨A1496, c1497, cs1498, rfl, rfl, hq1499, _⟩ := hR
                        have hq1500 := hq1499.fl (S' := S1432) fl_I
                        have hr1501 : r64 (x1493.length : Int) := len_r (h.m.rowLen (i := 0) rfl)
                        refine s_x h rfl rfl (by decide) (x_len h.k rfl Try.underlying23 rfl) (fun a h => ?_)
                        refine sMV h (fun a h => ?_)
                        refine l_end ?_
                        obtain ⟨o1502, hl1503, hf⟩ := bsome hf
                        refine c_fin (fun a w => (.inr ()) = o1502 ∧ St 136 w0 (ownL ([] ++ [.sn S0])) [] [.sn S1432] a w) ?_ ?_
                        · refine wp_block ?_
                          have h := h.pick [9, 10, 11, 0, 5] (by decide) rfl
                          refine c_loop (fun m1507 a w => ∃ (x1504 : Int), chatelainelaw37_KnowMore_l10 Fu x1120 x1493 m1507 x1504 = some o1502 ∧ r64 x1504 ∧ St 136 w0 (ownL ([] ++ [.sn S0])) [(14, .pointer (some ⟨g1121, 0, none⟩)), (125, .slice A1496 x1493.length c1497), (126, .int .i64 (x1493.length : Int)), (127, .int .i64 x1504)] [.box g1121 54 ([.slice A1122 x1120.1.1.length c1123, .slice A1125 x1120.1.2.1.length c1126, .slice A1129 x1120.1.2.2.1.length c1130, .bool x1120.1.2.2.2]), .row (.slice A1125 x1120.1.2.1.length c1126) 4 1 x1120.1.2.1.length cs1127, .row (.slice A1129 x1120.1.2.2.1.length c1130) 3 1 x1120.1.2.2.1.length cs1131, .row (.slice A1496 x1493.length c1497) 3 1 x1493.length cs1498, .sn S1432] a w) Fu ⟨0, hl1503, (show r64 0 from ⟨by decide, by decide⟩), h.has (by exact ⟨rfl, rfl, rfl, rfl, trivial⟩)⟩ (fun m1507 a w hI => ?_)
                          obtain ⟨x1504, hl1506, hr1505, h⟩ := hI
                          obtain _ | m1507 := m1507
                          · rw [chatelainelaw37_KnowMore_l10] at hl1506; cases hl1506
                          rw [chatelainelaw37_KnowMore_l10] at hl1506
                          refine c_rs ?_
                          refine s_x h rfl rfl (by decide) (x_bin h.k rfl rfl rfl ib_lss) (fun a h => ?_)
                          refine l_end ?_
                          refine c_cs h rfl (fun hb => ?_) (fun hb => ?_)
                          · rw [if_pos (of_decide_eq_true hb)] at hl1506
                            refine wp_skip ?_
                            refine e_thenN ?_
                            refine wp_seq ?_
                            refine wp_block ?_
                            refine c_rs ?_
                            obtain ⟨m1508, h1509, hl1506⟩ := bsome hl1506
                            obtain ⟨hi1510, hm1511⟩ := ix_some h1509
                            obtain ⟨g1513, hA1512⟩ := h.m.rowHead (i := 3) rfl (Nat.lt_of_le_of_lt (Nat.zero_le _) hm1511)
                            refine s_x h rfl rfl (by decide) (x_iaddrE h.k rfl Try.underlying23 sz_int hA1512 rfl rfl hi1510 hm1511) (fun a h => ?_)
                            obtain ⟨x1514, h1515, hl1506⟩ := bsome hl1506
                            obtain ⟨u1516, hv1517, hu1518⟩ := (hq1500).cell rfl h1515
                            obtain ⟨e1520, hr1519⟩ := hu1518
                            cases e1520
                            refine s_x h rfl rfl (by decide) (x_ld h.k rfl Try.underlying3 rfl rfl (h.m.cellRowE (i := 3) rfl hA1512 _ (by rw [Nat.mul_one]; exact hv1517))) (fun a h => ?_)
                            refine sAV h (fun a h => ?_)
                            refine l_end ?_
                            refine c_rs ?_
                            refine sMV h (fun a h => ?_)
                            refine sMV h (fun a h => ?_)
                            obtain ⟨x1521, h1522, hl1506⟩ := bsome hl1506
                            have hX := know_Set_Has_ok Fu (S0 := snapAll _) g1121 x1120.1 ⟨[.slice A1122 x1120.1.1.length c1123, .slice A1125 x1120.1.2.1.length c1126, .slice A1129 x1120.1.2.2.1.length c1130, .bool x1120.1.2.2.2], h.m.boxAll (i := 0) rfl, ⟨[.slice A1122 x1120.1.1.length c1123], [.slice A1125 x1120.1.2.1.length c1126, .slice A1129 x1120.1.2.2.1.length c1130, .bool x1120.1.2.2.2], rfl, ⟨_, _, rfl, ((hs1124.mono (((le1154.trans le1162).trans le1426).trans le1434))).mono (h.m.leAll (i := 4) rfl)⟩, ⟨[.slice A1125 x1120.1.2.1.length c1126], [.slice A1129 x1120.1.2.2.1.length c1130, .bool x1120.1.2.2.2], rfl, ⟨_, _, rfl, h.m.rowAll (i := 1) rfl (j := 4) rfl (hq1128.mono (((le1154.trans le1162).trans le1426).trans le1434))⟩, ⟨[.slice A1129 x1120.1.2.2.1.length c1130], [.bool x1120.1.2.2.2], rfl, ⟨_, _, rfl, h.m.rowAll (i := 2) rfl (j := 4) rfl (hq1132.mono (((le1154.trans le1162).trans le1426).trans le1434))⟩, rfl⟩⟩⟩⟩ x1514 hr1519 _ h1522 _ h.startAll
                            refine q_callX hX h rfl rfl rfl (by decide) Try.func10 rfl rfl rfl (fun a w v L1 S1 hR hb1 h => ?_)
                            obtain ⟨rfl, rfl, _⟩ := hR
                            refine s_x h rfl rfl (by decide) (x_not h.k rfl rfl) (fun a h => ?_)
                            refine l_end ?_
                            refine c_cond h rfl (fun hb => ?_) (fun hb => ?_)
                            · rw [if_pos hb] at hl1506
                              refine c_rs ?_
                              refine sAV h (fun a h => ?_)
                              refine l_end ?_
                              refine wp_ret ?_
                              refine e_blkR ?_
                              refine e_thenR ?_
                              refine e_thenR ?_
                              refine e_blkR ?_
                              refine e_thenR ?_
                              cases hl1506
                              try dsimp only at hf
                              refine e_thenR ?_
                              rw [← Option.some.inj hf]
                              exact r_ret1 h rfl (rv_tmp h rfl) ⟨_, [], _, rfl, ⟨rfl, rfl, trivial⟩, rfl, up1433, (h.m.pick [4] _ (by decide) rfl)⟩
                            · rw [if_neg (by rw [hb]; decide)] at hl1506
                              refine wp_skip ?_
                              refine e_blkN ?_
                              refine e_thenN ?_
                              refine c_r ?_
                              refine s_x h rfl rfl (by decide) (x_bin h.k rfl rfl rfl (ib_add rfl)) (fun a h => ?_)
                              refine sMV h (fun a h => ?_)
                              refine l_nil ?_
                              exact e_thenN ⟨m1507, Nat.lt_succ_self _, w64 (x1504 + 1), hl1506, (w64_r _), h.has (by exact ⟨rfl, rfl, rfl, rfl, trivial⟩)⟩
                          · rw [if_neg (of_decide_eq_false hb)] at hl1506
                            refine wp_exit ?_
                            refine e_thenX ?_
                            refine e_thenX ?_
                            refine e_blkX ?_
                            refine e_thenN ?_
                            have h := h.pick [4] (by decide) rfl
                            exact ⟨(Option.some.inj hl1506), h.has trivial⟩
                        · rintro a w ⟨rfl, h⟩
                          try dsimp only at hf
                          refine e_thenN ?_
                          refine c_rs ?_
                          refine sAV h (fun a h => ?_)
                          refine l_end ?_
                          refine wp_ret ?_
                          rw [← Option.some.inj hf]
                          exact r_ret1 h rfl (rv_tmp h rfl) ⟨_, [], _, rfl, ⟨rfl, rfl, trivial⟩, rfl, up1433, h.m⟩
                    · obtain ⟨x1525, rfl, hR⟩ := hR
                      dsimp only at hf
                      obtain ⟨g1526, A1527, c1528, A1530, c1531, cs1532, A1534, c1535, cs1536, A1539, c1540, cs1541, g1543, es1544, cl1545, g1547, es1548, cl1549, rfl, rfl, hs1529, hq1533, hq1537, hr1538, hq1542, hm1546, hm1550, _⟩ := hR
                      refine sMV h (fun a h => ?_)
                      refine s_x h rfl rfl (by decide) (x_ext h.k rfl rfl rfl) (fun a h => ?_)
                      refine s_x h rfl rfl (by decide) (x_ext h.k rfl rfl rfl) (fun a h => ?_)
                      refine sAV h (fun a h => ?_)
                      refine sAV h (fun a h => ?_)
                      refine l_end ?_
                      refine wp_seq ?_
                      refine c_rs ?_
                      refine sMV h (fun a h => ?_)
                      refine s_x h rfl rfl (by decide) (x_bin h.k rfl rfl rfl ib_neq) (fun a h => ?_)
                      refine sMV h (fun a h => ?_)
                      obtain ⟨z1552, hz1551, hf⟩ := bsome hf
                      refine q_grp h 7 (t := 108) 115 z1552 rfl (fun hB2 => ?_) (fun hB2 => ?_) (fun a w h => ?_)
                      · refine g_no h rfl rfl rfl rfl hB2 rfl (by decide) (fun a h => ?_)
                        refine g_no h rfl rfl rfl rfl hB2 rfl (by decide) (fun a h => ?_)
                        refine g_no h rfl rfl rfl rfl hB2 rfl (by decide) (fun a h => ?_)
                        refine g_no h rfl rfl rfl rfl hB2 rfl (by decide) (fun a h => ?_)
                        refine g_no h rfl rfl rfl rfl hB2 rfl (by decide) (fun a h => ?_)
                        refine g_no h rfl rfl rfl rfl hB2 rfl (by decide) (fun a h => ?_)
                        rw [if_pos (of_decide_eq_true hB2)] at hz1551
                        refine s_x h rfl rfl (by decide) (x_pick (u' := undef) h.k rfl rfl (fun _ => rfl) (fun hh => absurd (hB2.symm.trans hh) (by decide))) (fun a h => ?_)
                        exact (h.mid 6 rfl).val (by rw [Option.some.inj hz1551])
                      · rw [if_neg (of_decide_eq_false hB2)] at hz1551
                        refine g_yes h rfl rfl rfl rfl hB2 ?_
                        refine sMV h (fun a h => ?_)
                        refine g_yes h rfl rfl rfl rfl hB2 ?_
                        obtain ⟨x1554, h1555, hz1551⟩ := bsome hz1551
                        have hX := know_Set_List_ok Fu (S0 := snapAll _) g1121 x1120.1 ⟨[.slice A1122 x1120.1.1.length c1123, .slice A1125 x1120.1.2.1.length c1126, .slice A1129 x1120.1.2.2.1.length c1130, .bool x1120.1.2.2.2], h.m.boxAll (i := 11) rfl, ⟨[.slice A1122 x1120.1.1.length c1123], [.slice A1125 x1120.1.2.1.length c1126, .slice A1129 x1120.1.2.2.1.length c1130, .bool x1120.1.2.2.2], rfl, ⟨_, _, rfl, ((hs1124.mono (((le1154.trans le1162).trans le1426).trans le1434))).mono (h.m.leAll (i := 7) rfl)⟩, ⟨[.slice A1125 x1120.1.2.1.length c1126], [.slice A1129 x1120.1.2.2.1.length c1130, .bool x1120.1.2.2.2], rfl, ⟨_, _, rfl, h.m.rowAll (i := 12) rfl (j := 7) rfl (hq1128.mono (((le1154.trans le1162).trans le1426).trans le1434))⟩, ⟨[.slice A1129 x1120.1.2.2.1.length c1130], [.bool x1120.1.2.2.2], rfl, ⟨_, _, rfl, h.m.rowAll (i := 13) rfl (j := 7) rfl (hq1132.mono (((le1154.trans le1162).trans le1426).trans le1434))⟩, rfl⟩⟩⟩⟩ _ h1555 _ h.startAll
                        refine q_callX hX h rfl rfl rfl (by decide) Try.func12 rfl rfl rfl (fun a w v L1 S1 hR hb1 h => ?_)
                        obtain ⟨A1557, c1558, cs1559, rfl, rfl, hq1560, _⟩ := hR
                        have hq1561 := hq1560.fl (S' := S1432) fl_I
                        refine g_yes h rfl rfl rfl rfl hB2 ?_
                        refine sMV h (fun a h => ?_)
                        refine g_yes h rfl rfl rfl rfl hB2 ?_
                        obtain ⟨x1562, h1563, hz1551⟩ := bsome hz1551
                        have hX := know_Set_List_ok Fu (S0 := snapAll _) g1390 x1389.1 ⟨[.slice A1391 x1389.1.1.length c1392, .slice A1394 x1389.1.2.1.length c1395, .slice A1398 x1389.1.2.2.1.length c1399, .bool x1389.1.2.2.2], h.m.boxAll (i := 9) rfl, ⟨[.slice A1391 x1389.1.1.length c1392], [.slice A1394 x1389.1.2.1.length c1395, .slice A1398 x1389.1.2.2.1.length c1399, .bool x1389.1.2.2.2], rfl, ⟨_, _, rfl, ((hs1393.mono (le1426.trans le1434))).mono (h.m.leAll (i := 8) rfl)⟩, ⟨[.slice A1394 x1389.1.2.1.length c1395], [.slice A1398 x1389.1.2.2.1.length c1399, .bool x1389.1.2.2.2], rfl, ⟨_, _, rfl, h.m.rowAll (i := 10) rfl (j := 8) rfl (hq1397.mono (le1426.trans le1434))⟩, ⟨[.slice A1398 x1389.1.2.2.1.length c1399], [.bool x1389.1.2.2.2], rfl, ⟨_, _, rfl, h.m.rowAll (i := 11) rfl (j := 8) rfl (hq1401.mono (le1426.trans le1434))⟩, rfl⟩⟩⟩⟩ _ h1563 _ h.startAll
                        refine q_callX hX h rfl rfl rfl (by decide) Try.func12 rfl rfl rfl (fun a w v L1 S1 hR hb1 h => ?_)
                        obtain ⟨A1565, c1566, cs1567, rfl, rfl, hq1568, _⟩ := hR
                        have hq1569 := hq1568.fl (S' := S1432) fl_I
                        refine g_yes h rfl rfl rfl rfl hB2 ?_
                        obtain ⟨x1570, h1571, hz1551⟩ := bsome hz1551
                        have hX := chatelaineref01_Ints_ok Fu (S0 := snapAll _) A1557 c1558 x1554 (h.m.rowAll (i := 1) rfl (j := 9) rfl hq1561) A1565 c1566 x1562 (h.m.rowAll (i := 0) rfl (j := 9) rfl hq1569) _ h1571 _ h.startAll
                        refine q_callX hX h rfl rfl rfl (by decide) Try.func11 rfl rfl rfl (fun a w v L1 S1 hR hb1 h => ?_)
                        obtain ⟨rfl, rfl, _⟩ := hR
                        refine g_yes h rfl rfl rfl rfl hB2 ?_
                        refine s_x h rfl rfl (by decide) (x_not h.k rfl rfl) (fun a h => ?_)
                        refine s_x h rfl rfl (by decide) (x_pick (u' := undef) h.k rfl rfl (fun hh => absurd (hB2.symm.trans hh) (by decide)) (fun _ => rfl)) (fun a h => ?_)
                        have h := h.pick [2, 3, 4, 5, 6, 7, 8, 9, 10, 11, 12, 13, 14, 15, 16] (by decide) rfl
                        exact (h.mid 6 rfl).val (by rw [Option.some.inj hz1551])
                      refine sMV h (fun a h => ?_)
                      obtain ⟨z1574, hz1573, hf⟩ := bsome hf
                      refine q_grp h 7 (t := 116) 123 z1574 rfl (fun hB10 => ?_) (fun hB10 => ?_) (fun a w h => ?_)
                      · refine g_no h rfl rfl rfl rfl hB10 rfl (by decide) (fun a h => ?_)
                        refine g_no h rfl rfl rfl rfl hB10 rfl (by decide) (fun a h => ?_)
                        refine g_no h rfl rfl rfl rfl hB10 rfl (by decide) (fun a h => ?_)
                        refine g_no h rfl rfl rfl rfl hB10 rfl (by decide) (fun a h => ?_)
                        refine g_no h rfl rfl rfl rfl hB10 rfl (by decide) (fun a h => ?_)
                        refine g_no h rfl rfl rfl rfl hB10 rfl (by decide) (fun a h => ?_)
                        rw [if_pos hB10] at hz1573
                        refine s_x h rfl rfl (by decide) (x_pick (u' := undef) h.k rfl rfl (fun _ => rfl) (fun hh => absurd (hB10.symm.trans hh) (by decide))) (fun a h => ?_)
                        exact (h.mid 6 rfl).val (by rw [Option.some.inj hz1573])
                      · rw [if_neg (by rw [hB10]; decide)] at hz1573
                        refine g_yes h rfl rfl rfl rfl hB10 ?_
                        refine sMV h (fun a h => ?_)
                        refine g_yes h rfl rfl rfl rfl hB10 ?_
                        obtain ⟨x1576, h1577, hz1573⟩ := bsome hz1573
                        have hX := know_Set_List_ok Fu (S0 := snapAll _) g1526 x1525.1 ⟨[.slice A1527 x1525.1.1.length c1528, .slice A1530 x1525.1.2.1.length c1531, .slice A1534 x1525.1.2.2.1.length c1535, .bool x1525.1.2.2.2], h.m.boxAll (i := 0) rfl, ⟨[.slice A1527 x1525.1.1.length c1528], [.slice A1530 x1525.1.2.1.length c1531, .slice A1534 x1525.1.2.2.1.length c1535, .bool x1525.1.2.2.2], rfl, ⟨_, _, rfl, (hs1529).mono (h.m.leAll (i := 7) rfl)⟩, ⟨[.slice A1530 x1525.1.2.1.length c1531], [.slice A1534 x1525.1.2.2.1.length c1535, .bool x1525.1.2.2.2], rfl, ⟨_, _, rfl, h.m.rowAll (i := 1) rfl (j := 7) rfl hq1533⟩, ⟨[.slice A1534 x1525.1.2.2.1.length c1535], [.bool x1525.1.2.2.2], rfl, ⟨_, _, rfl, h.m.rowAll (i := 2) rfl (j := 7) rfl hq1537⟩, rfl⟩⟩⟩⟩ _ h1577 _ h.startAll
                        refine q_callX hX h rfl rfl rfl (by decide) Try.func12 rfl rfl rfl (fun a w v L1 S1 hR hb1 h => ?_)
                        obtain ⟨A1579, c1580, cs1581, rfl, rfl, hq1582, _⟩ := hR
                        have hq1583 := hq1582.fl (S' := S1432) fl_I
                        refine g_yes h rfl rfl rfl rfl hB10 ?_
                        refine sMV h (fun a h => ?_)
                        refine g_yes h rfl rfl rfl rfl hB10 ?_
                        obtain ⟨x1584, h1585, hz1573⟩ := bsome hz1573
                        have hX := know_Set_List_ok Fu (S0 := snapAll _) g1121 x1120.1 ⟨[.slice A1122 x1120.1.1.length c1123, .slice A1125 x1120.1.2.1.length c1126, .slice A1129 x1120.1.2.2.1.length c1130, .bool x1120.1.2.2.2], h.m.boxAll (i := 12) rfl, ⟨[.slice A1122 x1120.1.1.length c1123], [.slice A1125 x1120.1.2.1.length c1126, .slice A1129 x1120.1.2.2.1.length c1130, .bool x1120.1.2.2.2], rfl, ⟨_, _, rfl, ((hs1124.mono (((le1154.trans le1162).trans le1426).trans le1434))).mono (h.m.leAll (i := 8) rfl)⟩, ⟨[.slice A1125 x1120.1.2.1.length c1126], [.slice A1129 x1120.1.2.2.1.length c1130, .bool x1120.1.2.2.2], rfl, ⟨_, _, rfl, h.m.rowAll (i := 13) rfl (j := 8) rfl (hq1128.mono (((le1154.trans le1162).trans le1426).trans le1434))⟩, ⟨[.slice A1129 x1120.1.2.2.1.length c1130], [.bool x1120.1.2.2.2], rfl, ⟨_, _, rfl, h.m.rowAll (i := 14) rfl (j := 8) rfl (hq1132.mono (((le1154.trans le1162).trans le1426).trans le1434))⟩, rfl⟩⟩⟩⟩ _ h1585 _ h.startAll
                        refine q_callX hX h rfl rfl rfl (by decide) Try.func12 rfl rfl rfl (fun a w v L1 S1 hR hb1 h => ?_)
                        obtain ⟨A1587, c1588, cs1589, rfl, rfl, hq1590, _⟩ := hR
                        have hq1591 := hq1590.fl (S' := S1432) fl_I
                        refine g_yes h rfl rfl rfl rfl hB10 ?_
                        obtain ⟨x1592, h1593, hz1573⟩ := bsome hz1573
                        have hX := chatelaineref01_Ints_ok Fu (S0 := snapAll _) A1579 c1580 x1576 (h.m.rowAll (i := 1) rfl (j := 9) rfl hq1583) A1587 c1588 x1584 (h.m.rowAll (i := 0) rfl (j := 9) rfl hq1591) _ h1593 _ h.startAll
                        refine q_callX hX h rfl rfl rfl (by decide) Try.func11 rfl rfl rfl (fun a w v L1 S1 hR hb1 h => ?_)
                        obtain ⟨rfl, rfl, _⟩ := hR
                        refine g_yes h rfl rfl rfl rfl hB10 ?_
                        refine s_x h rfl rfl (by decide) (x_not h.k rfl rfl) (fun a h => ?_)
                        refine s_x h rfl rfl (by decide) (x_pick (u' := undef) h.k rfl rfl (fun hh => absurd (hB10.symm.trans hh) (by decide)) (fun _ => rfl)) (fun a h => ?_)
                        have h := h.pick [2, 3, 4, 5, 6, 7, 8, 9, 10, 11, 12, 13, 14, 15, 16] (by decide) rfl
                        exact (h.mid 6 rfl).val (by rw [Option.some.inj hz1573])
                      refine l_end ?_
                      refine c_cond h rfl (fun hb => ?_) (fun hb => ?_)
                      · rw [if_pos hb] at hf
                        refine c_rs ?_
                        refine sAV h (fun a h => ?_)
                        refine l_end ?_
                        refine wp_ret ?_
                        refine e_thenR ?_
                        rw [← Option.some.inj hf]
                        exact r_ret1 h rfl (rv_tmp h rfl) ⟨_, [], _, rfl, ⟨rfl, rfl, trivial⟩, rfl, up1433, (h.m.pick [7] _ (by decide) rfl)⟩
                      · rw [if_neg (by rw [hb]; decide)] at hf
                        refine wp_skip ?_
                        refine e_thenN ?_
                        refine wp_seq ?_
                        refine c_rs ?_
                        refine sMV h (fun a h => ?_)
                        obtain ⟨x1595, h1596, hf⟩ := bsome hf
                        have hX := know_Set_List_ok Fu (S0 := snapAll _) g581 (x580.1.1, x580.1.2.1, x580.1.2.2.1, x580.1.2.2.2) ((hp618.mono ((((le624.trans le1154).trans le1162).trans le1426).trans le1434)).mono (h.m.leAll (i := 7) rfl)) _ h1596 _ h.startAll
                        refine q_callX hX h rfl rfl rfl (by decide) Try.func12 rfl rfl rfl (fun a w v L1 S1 hR hb1 h => ?_)
                        obtain ⟨A1598, c1599, cs1600, rfl, rfl, hq1601, _⟩ := hR
                        have hq1602 := hq1601.fl (S' := S1432) fl_I
                        have hr1603 : r64 (x1595.length : Int) := len_r (h.m.rowLen (i := 0) rfl)
                        refine s_x h rfl rfl (by decide) (x_len h.k rfl Try.underlying23 rfl) (fun a h => ?_)
                        refine sMV h (fun a h => ?_)
                        refine l_end ?_
                        obtain ⟨o1604, hl1605, hf⟩ := bsome hf
                        refine c_fin (fun a w => (.inr ()) = o1604 ∧ St 136 w0 (ownL ([] ++ [.sn S0])) [] [.sn S1432] a w) ?_ ?_
                        · refine wp_block ?_
                          have h := h.pick [12, 13, 14, 0, 8] (by decide) rfl
                          refine c_loop (fun m1609 a w => ∃ (x1606 : Int), chatelainelaw37_KnowMore_l11 Fu x1120 x1595 m1609 x1606 = some o1604 ∧ r64 x1606 ∧ St 136 w0 (ownL ([] ++ [.sn S0])) [(14, .pointer (some ⟨g1121, 0, none⟩)), (125, .slice A1598 x1595.length c1599), (126, .int .i64 (x1595.length : Int)), (127, .int .i64 x1606)] [.box g1121 54 ([.slice A1122 x1120.1.1.length c1123, .slice A1125 x1120.1.2.1.length c1126, .slice A1129 x1120.1.2.2.1.length c1130, .bool x1120.1.2.2.2]), .row (.slice A1125 x1120.1.2.1.length c1126) 4 1 x1120.1.2.1.length cs1127, .row (.slice A1129 x1120.1.2.2.1.length c1130) 3 1 x1120.1.2.2.1.length cs1131, .row (.slice A1598 x1595.length c1599) 3 1 x1595.length cs1600, .sn S1432] a w) Fu ⟨0, hl1605, (show r64 0 from ⟨by decide, by decide⟩), h.has (by exact ⟨rfl, rfl, rfl, rfl, trivial⟩)⟩ (fun m1609 a w hI => ?_)
                          obtain ⟨x1606, hl1608, hr1607, h⟩ := hI
                          obtain _ | m1609 := m1609
                          · rw [chatelainelaw37_KnowMore_l11] at hl1608; cases hl1608
                          rw [chatelainelaw37_KnowMore_l11] at hl1608
                          refine c_rs ?_
                          refine s_x h rfl rfl (by decide) (x_bin h.k rfl rfl rfl ib_lss) (fun a h => ?_)
                          refine l_end ?_
                          refine c_cs h rfl (fun hb => ?_) (fun hb => ?_)
                          · rw [if_pos (of_decide_eq_true hb)] at hl1608
                            refine wp_skip ?_
                            refine e_thenN ?_
                            refine wp_seq ?_
                            refine wp_block ?_
                            refine c_rs ?_
                            obtain ⟨m1610, h1611, hl1608⟩ := bsome hl1608
                            obtain ⟨hi1612, hm1613⟩ := ix_some h1611
                            obtain ⟨g1615, hA1614⟩ := h.m.rowHead (i := 3) rfl (Nat.lt_of_le_of_lt (Nat.zero_le _) hm1613)
                            refine s_x h rfl rfl (by decide) (x_iaddrE h.k rfl Try.underlying23 sz_int hA1614 rfl rfl hi1612 hm1613) (fun a h => ?_)
                            obtain ⟨x1616, h1617, hl1608⟩ := bsome hl1608
                            obtain ⟨u1618, hv1619, hu1620⟩ := (hq1602).cell rfl h1617
                            obtain ⟨e1622, hr1621⟩ := hu1620
                            cases e1622
                            refine s_x h rfl rfl (by decide) (x_ld h.k rfl Try.underlying3 rfl rfl (h.m.cellRowE (i := 3) rfl hA1614 _ (by rw [Nat.mul_one]; exact hv1619))) (fun a h => ?_)
                            refine sAV h (fun a h => ?_)
                            refine l_end ?_
                            refine c_rs ?_
                            refine sMV h (fun a h => ?_)
                            refine sMV h (fun a h => ?_)
                            obtain ⟨x1623, h1624, hl1608⟩ := bsome hl1608
                            have hX := know_Set_Has_ok Fu (S0 := snapAll _) g1121 x1120.1 ⟨[.slice A1122 x1120.1.1.length c1123, .slice A1125 x1120.1.2.1.length c1126, .slice A1129 x1120.1.2.2.1.length c1130, .bool x1120.1.2.2.2], h.m.boxAll (i := 0) rfl, ⟨[.slice A1122 x1120.1.1.length c1123], [.slice A1125 x1120.1.2.1.length c1126, .slice A1129 x1120.1.2.2.1.length c1130, .bool x1120.1.2.2.2], rfl, ⟨_, _, rfl, ((hs1124.mono (((le1154.trans le1162).trans le1426).trans le1434))).mono (h.m.leAll (i := 4) rfl)⟩, ⟨[.slice A1125 x1120.1.2.1.length c1126], [.slice A1129 x1120.1.2.2.1.length c1130, .bool x1120.1.2.2.2], rfl, ⟨_, _, rfl, h.m.rowAll (i := 1) rfl (j := 4) rfl (hq1128.mono (((le1154.trans le1162).trans le1426).trans le1434))⟩, ⟨[.slice A1129 x1120.1.2.2.1.length c1130], [.bool x1120.1.2.2.2], rfl, ⟨_, _, rfl, h.m.rowAll (i := 2) rfl (j := 4) rfl (hq1132.mono (((le1154.trans le1162).trans le1426).trans le1434))⟩, rfl⟩⟩⟩⟩ x1616 hr1621 _ h1624 _ h.startAll
                            refine q_callX hX h rfl rfl rfl (by decide) Try.func10 rfl rfl rfl (fun a w v L1 S1 hR hb1 h => ?_)
                            obtain ⟨rfl, rfl, _⟩ := hR
                            refine s_x h rfl rfl (by decide) (x_not h.k rfl rfl) (fun a h => ?_)
                            refine l_end ?_
                            refine c_cond h rfl (fun hb => ?_) (fun hb => ?_)
                            · rw [if_pos hb] at hl1608
                              refine c_rs ?_
                              refine sAV h (fun a h => ?_)
                              refine l_end ?_
                              refine wp_ret ?_
                              refine e_blkR ?_
                              refine e_thenR ?_
                              refine e_thenR ?_
                              refine e_blkR ?_
                              refine e_thenR ?_
                              cases hl1608
                              try dsimp only at hf
                              refine e_thenR ?_
                              rw [← Option.some.inj hf]
                              exact r_ret1 h rfl (rv_tmp h rfl) ⟨_, [], _, rfl, ⟨rfl, rfl, trivial⟩, rfl, up1433, (h.m.pick [4] _ (by decide) rfl)⟩
                            · rw [if_neg (by rw [hb]; decide)] at hl1608
                              refine wp_skip ?_
                              refine e_blkN ?_
                              refine e_thenN ?_
                              refine c_r ?_
                              refine s_x h rfl rfl (by decide) (x_bin h.k rfl rfl rfl (ib_add rfl)) (fun a h => ?_)
                              refine sMV h (fun a h => ?_)
                              refine l_nil ?_
                              exact e_thenN ⟨m1609, Nat.lt_succ_self _, w64 (x1606 + 1), hl1608, (w64_r _), h.has (by exact ⟨rfl, rfl, rfl, rfl, trivial⟩)⟩
                          · rw [if_neg (of_decide_eq_false hb)] at hl1608
                            refine wp_exit ?_
                            refine e_thenX ?_
                            refine e_thenX ?_
                            refine e_blkX ?_
                            refine e_thenN ?_
                            have h := h.pick [4] (by decide) rfl
                            exact ⟨(Option.some.inj hl1608), h.has trivial⟩
                        · rintro a w ⟨rfl, h⟩
                          try dsimp only at hf
                          refine e_thenN ?_
                          refine c_rs ?_
                          refine sAV h (fun a h => ?_)
                          refine l_end ?_
                          refine wp_ret ?_
                          rw [← Option.some.inj hf]
                          exact r_ret1 h rfl (rv_tmp h rfl) ⟨_, [], _, rfl, ⟨rfl, rfl, trivial⟩, rfl, up1433, h.m⟩
end Go.Proofs.Ytnjmlihmnkbgdaa
