/- strings.Repeat: the shelf's contract (laid at this program) in xt.py's form. -/
import Derived.Test.YtnmeelkfpmodgaaDoorRb
import Derived.Test.YtnmeelkfpmodgaaDoorPk
import Derived.Test.YtnmeelkfpmodgaaDoorPs
import Derived.Shelf.Strings.Repeat
import Derived.Test.YtnmeelkfpmodgaaDoorProg
set_option linter.unusedVariables false
set_option linter.unusedSimpArgs false
namespace Go.Proofs.YtnmeelkfpmodgaaDoor
open Go.RowKit
section
open Go.Shelf
def lays105_ren : Go.Shelf.Ren := ⟨fun | 105 => 30 | 212 => 39 | 99 => 40 | 165 => 34 | 166 => 24 | 170 => 41 | 169 => 26 | 263 => 49 | 264 => 50 | 206 => 51 | 240 => 35 | 241 => 46 | 276 => 47 | 277 => 60 | n => n, fun | 9 => 9 | 3 => 3 | 4 => 4 | 20 => 20 | 0 => 0 | 46 => 74 | 109 => 79 | 5 => 5 | 72 => 54 | 76 => 61 | 51 => 92 | 146 => 93 | 53 => 95 | 148 => 96 | 70 => 52 | 37 => 28 | 75 => 60 | 127 => 75 | 164 => 89 | 80 => 64 | n => n, fun | n => n⟩
theorem lays105 : Go.Proofs.Lays.n105 Tryd.prog lays105_ren := {
  mixed := by kernel_rfl
  f99 := Tryd.func40.trans (congrArg some (by kernel_rfl))
  f105 := Tryd.func30.trans (congrArg some (by kernel_rfl))
  f165 := Tryd.func34.trans (congrArg some (by kernel_rfl))
  f166 := Tryd.func24.trans (congrArg some (by kernel_rfl))
  f169 := Tryd.func26.trans (congrArg some (by kernel_rfl))
  f170 := Tryd.func41.trans (congrArg some (by kernel_rfl))
  f206 := Tryd.func51.trans (congrArg some (by kernel_rfl))
  f212 := Tryd.func39.trans (congrArg some (by kernel_rfl))
  f240 := Tryd.func35.trans (congrArg some (by kernel_rfl))
  f241 := Tryd.func46.trans (congrArg some (by kernel_rfl))
  f263 := Tryd.func49.trans (congrArg some (by kernel_rfl))
  f264 := Tryd.func50.trans (congrArg some (by kernel_rfl))
  f276 := Tryd.func47.trans (congrArg some (by kernel_rfl))
  f277 := Tryd.func60.trans (congrArg some (by kernel_rfl))
  t0 := Tryd.underlying0
  a0 := Tryd.isAgg0
  z0 := Tryd.sizeOf0
  v0 := Tryd.zeroValue0
  t3 := Tryd.underlying3
  a3 := Tryd.isAgg3
  z3 := Tryd.sizeOf3
  v3 := Tryd.zeroValue3
  t4 := Tryd.underlying4
  a4 := Tryd.isAgg4
  z4 := Tryd.sizeOf4
  v4 := Tryd.zeroValue4
  t5 := Tryd.underlying5
  a5 := Tryd.isAgg5
  z5 := Tryd.sizeOf5
  v5 := Tryd.zeroValue5
  t9 := Tryd.underlying9
  a9 := Tryd.isAgg9
  z9 := Tryd.sizeOf9
  v9 := Tryd.zeroValue9
  t20 := Tryd.underlying20
  a20 := Tryd.isAgg20
  z20 := Tryd.sizeOf20
  v20 := Tryd.zeroValue20
  t37 := Tryd.underlying28
  a37 := Tryd.isAgg28
  z37 := Tryd.sizeOf28
  v37 := Tryd.zeroValue28
  t46 := Tryd.underlying74
  a46 := Tryd.isAgg74
  z46 := Tryd.sizeOf74
  v46 := Tryd.zeroValue74
  t51 := Tryd.underlying92
  a51 := Tryd.isAgg92
  z51 := Tryd.sizeOf92
  v51 := Tryd.zeroValue92
  t53 := Tryd.underlying95
  a53 := Tryd.isAgg95
  z53 := Tryd.sizeOf95
  v53 := Tryd.zeroValue95
  t70 := Tryd.underlying52
  a70 := Tryd.isAgg52
  z70 := Tryd.sizeOf52
  v70 := Tryd.zeroValue52
  t72 := Tryd.underlying54
  a72 := Tryd.isAgg54
  z72 := Tryd.sizeOf54
  v72 := Tryd.zeroValue54
  t75 := Tryd.underlying60
  a75 := Tryd.isAgg60
  z75 := Tryd.sizeOf60
  v75 := Tryd.zeroValue60
  t76 := Tryd.underlying61
  a76 := Tryd.isAgg61
  z76 := Tryd.sizeOf61
  v76 := Tryd.zeroValue61
  t109 := Tryd.underlying79
  a109 := Tryd.isAgg79
  z109 := Tryd.sizeOf79
  v109 := Tryd.zeroValue79
  t127 := Tryd.underlying75
  a127 := Tryd.isAgg75
  z127 := Tryd.sizeOf75
  v127 := Tryd.zeroValue75
  t146 := Tryd.underlying93
  a146 := Tryd.isAgg93
  z146 := Tryd.sizeOf93
  v146 := Tryd.zeroValue93
  t148 := Tryd.underlying96
  a148 := Tryd.isAgg96
  z148 := Tryd.sizeOf96
  v148 := Tryd.zeroValue96
  t164 := Tryd.underlying89
  a164 := Tryd.isAgg89
  z164 := Tryd.sizeOf89
  v164 := Tryd.zeroValue89 }
theorem Builder_Extra_105 : Builder.Extra Tryd.prog lays105_ren := {
  sizeBuilder := by kernel_rfl
  liesBuilder := by kernel_rfl
  t5 := Tryd.underlying5
  a5 := Tryd.isAgg5
  z5 := Tryd.sizeOf5
  v5 := Tryd.zeroValue5
  infoByte := by kernel_rfl
  cellsByte := by kernel_rfl
  sizeByte := by kernel_rfl
  neB5 := by decide }
end
def strings_Repeat (Fu : Nat) (a0 : List UInt8) (a1 : Int) : Option (List UInt8) := if 0 ≤ a1 ∧ a1 ≤ 9223372036854775807 ∧ a0.length * a1.toNat ≤ 140737488355328 then some (Lib.repeatL a0 a1.toNat) else none
theorem strings_Repeat_ok (Fu : Nat) {S0 : Snap} (a0 : List UInt8) (hra0 : a0.length ≤ maxLen) (a1 : Int) (hra1 : r64 a1) (r : List UInt8) (hf : strings_Repeat Fu a0 a1 = some r) (w0 : World) (hm : Mem w0 (ownL ([] ++ [.sn S0])) ([] ++ [.sn S0]) w0) :
    Calls Tryd.prog 30 #[.string (sb a0), .int .i64 a1] w0 (Ret w0 S0 [] (fun v L1 S1 => v = .string (sb r) ∧ L1 = [] ∧ r.length ≤ maxLen ∧ True)) := by
  unfold strings_Repeat at hf
  split at hf
  · rename_i hc
    obtain rfl := Option.some.inj hf
    have hX := Go.Proofs.Any.strings_Repeat lays105 Builder_Extra_105 (sb a0) a1.toNat w0 (by omega) (by simpa [sb, ByteArray.size] using hc.2.2)
    rw [show ((a1.toNat : Nat) : Int) = a1 by omega] at hX
    refine hX.mono ?_
    rintro e w' ⟨he, hB⟩
    refine ret_below hm he hB ⟨?_, rfl, by rw [Lib.repeatL_length, Nat.mul_comm]; unfold maxLen; omega, trivial⟩
    simp [sb]
  · cases hf
end Go.Proofs.YtnmeelkfpmodgaaDoor
