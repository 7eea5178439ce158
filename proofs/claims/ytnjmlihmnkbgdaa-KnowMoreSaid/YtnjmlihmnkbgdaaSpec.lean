/- Plain words on numbers and bytes: no program here. -/
set_option linter.unusedVariables false
set_option linter.unusedSimpArgs false
namespace Go.Proofs.Ytnjmlihmnkbgdaa

/-- k bytes of a number, the highest first -/
def be : Nat → Nat → List UInt8
  | 0, _ => []
  | k + 1, n => UInt8.ofNat (n / 256 ^ k) :: be k n
/-- the number of bytes -/
def num (l : List UInt8) : Nat := l.foldl (fun a b => 256 * a + b.toNat) 0
end Go.Proofs.Ytnjmlihmnkbgdaa
