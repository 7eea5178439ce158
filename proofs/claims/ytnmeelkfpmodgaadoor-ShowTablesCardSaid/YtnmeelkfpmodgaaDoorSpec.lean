/- Plain words on numbers and bytes: no program here. -/
set_option linter.unusedVariables false
set_option linter.unusedSimpArgs false
namespace Go.Proofs.YtnmeelkfpmodgaaDoor

/-- k bytes of a number, the highest first -/
def be : Nat → Nat → List UInt8
  | 0, _ => []
  | k + 1, n => UInt8.ofNat (n / 256 ^ k) :: be k n
end Go.Proofs.YtnmeelkfpmodgaaDoor
