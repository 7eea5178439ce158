/- strings.ReplaceAll: the shelf's contract (laid at this program) in xt.py's form. -/
import Derived.Test.YtcjleeclpmgbjaaDoorPs
import Derived.Test.YtcjleeclpmgbjaaDoorGl
import Derived.Test.YtcjleeclpmgbjaaDoorPc
import Derived.Shelf.Strings.Replace
import Derived.Test.YtcjleeclpmgbjaaDoorProg
set_option linter.unusedVariables false
namespace Go.Proofs.YtcjleeclpmgbjaaDoor
open Go.RowKit
section
open Go.Shelf
def lays155_ren : Go.Shelf.Ren := ⟨fun | 155 => 38 | 154 => 59 | 138 => 76 | 165 => 56 | 143 => 77 | 166 => 42 | 197 => 78 | 169 => 44 | 195 => 91 | 218 => 92 | 240 => 62 | 241 => 71 | 219 => 93 | 260 => 94 | 276 => 80 | 277 => 88 | 217 => 79 | 225 => 103 | 224 => 104 | 267 => 105 | 266 => 95 | 314 => 108 | n => n, fun | 9 => 9 | 3 => 3 | 4 => 4 | 72 => 76 | 0 => 0 | 76 => 79 | 105 => 120 | 21 => 21 | 5 => 5 | 70 => 74 | 20 => 20 | 37 => 23 | 75 => 78 | 127 => 103 | 164 => 122 | 46 => 82 | 119 => 144 | 139 => 147 | 138 => 146 | 146 => 149 | 51 => 95 | 80 => 83 | n => n, fun | 1 => 1 | 3 => 2 | 4 => 3 | n => n⟩
theorem lays155 : Go.Proofs.Lays.n155 Tryd.prog lays155_ren := {
  mixed := by kernel_rfl
  f138 := Tryd.func76.trans (congrArg some (by kernel_rfl))
  f143 := Tryd.func77.trans (congrArg some (by kernel_rfl))
  f154 := Tryd.func59.trans (congrArg some (by kernel_rfl))
  f155 := Tryd.func38.trans (congrArg some (by kernel_rfl))
  f165 := Tryd.func56.trans (congrArg some (by kernel_rfl))
  f166 := Tryd.func42.trans (congrArg some (by kernel_rfl))
  f169 := Tryd.func44.trans (congrArg some (by kernel_rfl))
  f195 := Tryd.func91.trans (congrArg some (by kernel_rfl))
  f197 := Tryd.func78.trans (congrArg some (by kernel_rfl))
  f217 := Tryd.func79.trans (congrArg some (by kernel_rfl))
  f218 := Tryd.func92.trans (congrArg some (by kernel_rfl))
  f219 := Tryd.func93.trans (congrArg some (by kernel_rfl))
  f224 := Tryd.func104.trans (congrArg some (by kernel_rfl))
  f225 := Tryd.func103.trans (congrArg some (by kernel_rfl))
  f240 := Tryd.func62.trans (congrArg some (by kernel_rfl))
  f241 := Tryd.func71.trans (congrArg some (by kernel_rfl))
  f260 := Tryd.func94.trans (congrArg some (by kernel_rfl))
  f266 := Tryd.func95.trans (congrArg some (by kernel_rfl))
  f267 := Tryd.func105.trans (congrArg some (by kernel_rfl))
  f276 := Tryd.func80.trans (congrArg some (by kernel_rfl))
  f277 := Tryd.func88.trans (congrArg some (by kernel_rfl))
  f314 := Tryd.func108.trans (congrArg some (by kernel_rfl))
  t0 := Tryd.underlying0
  a0 := Tryd.isAgg0
  z0 := Tryd.sizeOf0
  v0 := Tryd.zeroValue0
  t3 := Tryd.underlying3
  a3 := Tryd.isAgg3
  z3 := Tryd.sizeOf3
  v3 := Tryd.zeroValue3
  t4 := Tryd.underlying4
  a4 := Tryd.isAgg4
  z4 := Tryd.sizeOf4
  v4 := Tryd.zeroValue4
  t5 := Tryd.underlying5
  a5 := Tryd.isAgg5
  z5 := Tryd.sizeOf5
  v5 := Tryd.zeroValue5
  t9 := Tryd.underlying9
  a9 := Tryd.isAgg9
  z9 := Tryd.sizeOf9
  v9 := Tryd.zeroValue9
  t20 := Tryd.underlying20
  a20 := Tryd.isAgg20
  z20 := Tryd.sizeOf20
  v20 := Tryd.zeroValue20
  t21 := Tryd.underlying21
  a21 := Tryd.isAgg21
  z21 := Tryd.sizeOf21
  v21 := Tryd.zeroValue21
  t37 := Tryd.underlying23
  a37 := Tryd.isAgg23
  z37 := Tryd.sizeOf23
  v37 := Tryd.zeroValue23
  t46 := Tryd.underlying82
  a46 := Tryd.isAgg82
  z46 := Tryd.sizeOf82
  v46 := Tryd.zeroValue82
  t51 := Tryd.underlying95
  a51 := Tryd.isAgg95
  z51 := Tryd.sizeOf95
  v51 := Tryd.zeroValue95
  t70 := Tryd.underlying74
  a70 := Tryd.isAgg74
  z70 := Tryd.sizeOf74
  v70 := Tryd.zeroValue74
  t72 := Tryd.underlying76
  a72 := Tryd.isAgg76
  z72 := Tryd.sizeOf76
  v72 := Tryd.zeroValue76
  t75 := Tryd.underlying78
  a75 := Tryd.isAgg78
  z75 := Tryd.sizeOf78
  v75 := Tryd.zeroValue78
  t76 := Tryd.underlying79
  a76 := Tryd.isAgg79
  z76 := Tryd.sizeOf79
  v76 := Tryd.zeroValue79
  t105 := Tryd.underlying120
  a105 := Tryd.isAgg120
  z105 := Tryd.sizeOf120
  v105 := Tryd.zeroValue120
  t119 := Tryd.underlying144
  a119 := Tryd.isAgg144
  z119 := Tryd.sizeOf144
  t127 := Tryd.underlying103
  a127 := Tryd.isAgg103
  z127 := Tryd.sizeOf103
  v127 := Tryd.zeroValue103
  t138 := Tryd.underlying146
  a138 := Tryd.isAgg146
  z138 := Tryd.sizeOf146
  v138 := Tryd.zeroValue146
  t139 := Tryd.underlying147
  a139 := Tryd.isAgg147
  z139 := Tryd.sizeOf147
  v139 := Tryd.zeroValue147
  t146 := Tryd.underlying149
  a146 := Tryd.isAgg149
  z146 := Tryd.sizeOf149
  v146 := Tryd.zeroValue149
  t164 := Tryd.underlying122
  a164 := Tryd.isAgg122
  z164 := Tryd.sizeOf122
  v164 := Tryd.zeroValue122
  g1 := by kernel_rfl
  g3 := by kernel_rfl
  g4 := by kernel_rfl }
theorem Builder_Extra_155 : Builder.Extra Tryd.prog lays155_ren := {
  sizeBuilder := by kernel_rfl
  liesBuilder := by kernel_rfl
  t5 := Tryd.underlying5
  a5 := Tryd.isAgg5
  z5 := Tryd.sizeOf5
  v5 := Tryd.zeroValue5
  infoByte := by kernel_rfl
  cellsByte := by kernel_rfl
  sizeByte := by kernel_rfl
  neB5 := by decide }
end
def strings_ReplaceAll (Fu : Nat) (a0 a1 a2 : List UInt8) : Option (List UInt8) :=
  if a0.length < 4294967281 ∧ 1 ≤ a1.length ∧ a0.length + Lib.countB (sb a0) (sb a1) * a2.length ≤ 140737488355328 ∧ (Lib.replaceAll a0 a1 a2).length ≤ maxLen then some (Lib.replaceAll a0 a1 a2) else none
theorem strings_ReplaceAll_ok (Fu : Nat) {S0 : Snap} (hGL : GL S0) (a0 : List UInt8) (hra0 : a0.length ≤ maxLen) (a1 : List UInt8) (hra1 : a1.length ≤ maxLen) (a2 : List UInt8) (hra2 : a2.length ≤ maxLen) (r : List UInt8) (hf : strings_ReplaceAll Fu a0 a1 a2 = some r) (w0 : World) (hm : Mem w0 (ownL ([] ++ [.sn S0])) ([] ++ [.sn S0]) w0) :
    Calls Tryd.prog 38 #[.string (sb a0), .string (sb a1), .string (sb a2)] w0 (Ret w0 S0 [] (fun v L1 S1 => v = .string (sb r) ∧ L1 = [] ∧ r.length ≤ maxLen ∧ True)) := by
  unfold strings_ReplaceAll at hf
  split at hf
  · rename_i hc
    obtain ⟨h1, h2, h3, h4⟩ := hc
    obtain rfl := Option.some.inj hf
    obtain ⟨⟨m, hmx⟩, _⟩ := hGL w0 (hm.snOK (i := 0) rfl)
    refine (Go.Proofs.Any.strings_ReplaceAll lays155 Builder_Extra_155 (sb a0) (sb a1) (sb a2) m w0 (by simpa [sb, ByteArray.size] using h1) hmx (by simpa [sb, ByteArray.size] using h2) (by simpa [sb, ByteArray.size] using h3)).mono ?_
    rintro e w' ⟨he, hB⟩
    refine ret_below hm he hB ⟨?_, rfl, h4, trivial⟩
    simp [sb]
  · cases hf
end Go.Proofs.YtcjleeclpmgbjaaDoor
