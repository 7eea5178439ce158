/- slices.Sort over ints: the shelf's contract, laid at this program (printed by the shelf's lay-plain, turned to this seat), over a row of one's own. -/
import Derived.Test.YtnjmlihmnkbgdaaSo
import Derived.Test.YtnjmlihmnkbgdaaTy
import Derived.Shelf.Slices.In.SortNone
import Derived.Test.YtnjmlihmnkbgdaaProg
set_option linter.unusedVariables false
namespace Go.Proofs.Ytnjmlihmnkbgdaa
open Go.RowKit
section
open Go.Shelf
def lays189_ren : Go.Shelf.Ren := ⟨fun | 189 => 31 | 125 => 38 | 257 => 37 | 128 => 48 | 129 => 49 | 294 => 39 | 295 => 40 | 296 => 41 | 297 => 42 | 298 => 43 | 299 => 44 | 216 => 45 | 300 => 46 | 301 => 47 | 328 => 50 | 329 => 51 | 330 => 52 | 331 => 53 | 332 => 54 | 215 => 55 | 343 => 56 | n => n, fun | 28 => 23 | 3 => 3 | 46 => 70 | 0 => 0 | 51 => 80 | 53 => 82 | 4 => 4 | 183 => 73 | 182 => 72 | 131 => 60 | 5 => 5 | 9 => 9 | 218 => 83 | 222 => 87 | 228 => 89 | 229 => 90 | n => n, fun | n => n⟩
theorem lays189 : Go.Proofs.Lays.n189 Try.prog lays189_ren := {
  mixed := by kernel_rfl
  f125 := Try.func38.trans (congrArg some (by kernel_rfl))
  f128 := Try.func48.trans (congrArg some (by kernel_rfl))
  f129 := Try.func49.trans (congrArg some (by kernel_rfl))
  f189 := Try.func31.trans (congrArg some (by kernel_rfl))
  f215 := Try.func55.trans (congrArg some (by kernel_rfl))
  f216 := Try.func45.trans (congrArg some (by kernel_rfl))
  f257 := Try.func37.trans (congrArg some (by kernel_rfl))
  f294 := Try.func39.trans (congrArg some (by kernel_rfl))
  f295 := Try.func40.trans (congrArg some (by kernel_rfl))
  f296 := Try.func41.trans (congrArg some (by kernel_rfl))
  f297 := Try.func42.trans (congrArg some (by kernel_rfl))
  f298 := Try.func43.trans (congrArg some (by kernel_rfl))
  f299 := Try.func44.trans (congrArg some (by kernel_rfl))
  f300 := Try.func46.trans (congrArg some (by kernel_rfl))
  f301 := Try.func47.trans (congrArg some (by kernel_rfl))
  f328 := Try.func50.trans (congrArg some (by kernel_rfl))
  f329 := Try.func51.trans (congrArg some (by kernel_rfl))
  f330 := Try.func52.trans (congrArg some (by kernel_rfl))
  f331 := Try.func53.trans (congrArg some (by kernel_rfl))
  f332 := Try.func54.trans (congrArg some (by kernel_rfl))
  f343 := Try.func56.trans (congrArg some (by kernel_rfl))
  t0 := Try.underlying0
  a0 := Try.isAgg0
  z0 := Try.sizeOf0
  v0 := Try.zeroValue0
  t3 := Try.underlying3
  a3 := Try.isAgg3
  z3 := Try.sizeOf3
  v3 := Try.zeroValue3
  t4 := Try.underlying4
  a4 := Try.isAgg4
  z4 := Try.sizeOf4
  v4 := Try.zeroValue4
  t5 := Try.underlying5
  a5 := Try.isAgg5
  z5 := Try.sizeOf5
  v5 := Try.zeroValue5
  t9 := Try.underlying9
  a9 := Try.isAgg9
  z9 := Try.sizeOf9
  v9 := Try.zeroValue9
  t28 := Try.underlying23
  a28 := Try.isAgg23
  z28 := Try.sizeOf23
  v28 := Try.zeroValue23
  t46 := Try.underlying70
  a46 := Try.isAgg70
  z46 := Try.sizeOf70
  v46 := Try.zeroValue70
  t51 := Try.underlying80
  a51 := Try.isAgg80
  z51 := Try.sizeOf80
  v51 := Try.zeroValue80
  t53 := Try.underlying82
  a53 := Try.isAgg82
  z53 := Try.sizeOf82
  v53 := Try.zeroValue82
  t131 := Try.underlying60
  a131 := Try.isAgg60
  z131 := Try.sizeOf60
  v131 := Try.zeroValue60
  t182 := Try.underlying72
  a182 := Try.isAgg72
  z182 := Try.sizeOf72
  v182 := Try.zeroValue72
  t183 := Try.underlying73
  a183 := Try.isAgg73
  z183 := Try.sizeOf73
  v183 := Try.zeroValue73
  t218 := Try.underlying83
  a218 := Try.isAgg83
  z218 := Try.sizeOf83
  v218 := Try.zeroValue83
  t222 := Try.underlying87
  a222 := Try.isAgg87
  z222 := Try.sizeOf87
  v222 := Try.zeroValue87
  t228 := Try.underlying89
  a228 := Try.isAgg89
  z228 := Try.sizeOf89
  v228 := Try.zeroValue89
  t229 := Try.underlying90
  a229 := Try.isAgg90
  z229 := Try.sizeOf90
  v229 := Try.zeroValue90 }
end
theorem sort_ok {S0 : Snap} {A : Option Addr} {c : Nat} {zs r : List Int} {cs : List Value} (hq : reps tyI S0 cs zs) (hb : srt zs = some r) (w0 : World) (hm : Mem w0 (ownL ([.row (.slice A zs.length c) 3 1 zs.length cs] ++ [.sn S0])) ([.row (.slice A zs.length c) 3 1 zs.length cs] ++ [.sn S0]) w0) :
    Calls Try.prog 31 #[.slice A zs.length c] w0 (Ret w0 S0 [.row (.slice A zs.length c) 3 1 zs.length cs] (fun v L1 S1 => ∃ cs' : List Value, v = .tuple #[] ∧ L1 = [.row (.slice A zs.length c) 3 1 zs.length cs'] ∧ reps tyI S1 cs' r ∧ r.length = zs.length)) := by
  obtain ⟨hlt, rfl⟩ := srt_some hb
  have hk := hm.ok 0 _ rfl
  rcases hk.2 with ⟨hv, h0⟩ | ⟨g, cap, cur, hv, _⟩
  · injection hv with h1 h2 h3
    subst h1
    have hz : zs = [] := List.length_eq_zero_iff.1 h0
    subst hz
    refine (Go.Proofs.Any.slices_Sort_int_none lays189 none c w0).mono ?_
    rintro e w' ⟨rfl, rfl⟩
    exact ⟨_, _, S0, rfl, ⟨cs, rfl, rfl, by have : sortI [] = [] := List.length_eq_zero_iff.1 (sortI_len []); rw [this]; exact hq, sortI_len _⟩, rfl, Up.refl _ _ _, hm⟩
  · injection hv with h1 h2 h3
    subst h1
    subst h3
    obtain rfl := repsI hq
    have hr := repsI_r hq
    have hh := holds_row hm (i := 0) rfl
    refine (Go.Proofs.Any.slices_Sort_int lays189 g 0 c zs w0 hh.1 hh.2 (by omega)).mono ?_
    rintro e w' ⟨rfl, n, os, rfl⟩
    exact ⟨_, _, S0, rfl, ⟨(sortI zs).map (Value.int .i64), rfl, rfl, repsI_of (fun x hx => hr x (sortI_mem.1 hx)), sortI_len _⟩, rfl, Up.refl _ _ _, sort_row hm (i := 0) rfl (sortI_len zs) n os⟩
end Go.Proofs.Ytnjmlihmnkbgdaa
