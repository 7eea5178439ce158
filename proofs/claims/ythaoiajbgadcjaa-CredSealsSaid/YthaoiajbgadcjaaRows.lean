/-
  No cell of these rows narrows 'for every input' (looked for: loops, veiled, ifaces, maps, wideKeys, modest, calm, conditions, laid).
  DERIVED. THE GIVEN ROWS OF THIS SEAT. 3 by the template 'for every input the law returns true; each argument reads behind the call as it read before'; 0 by the template 'total and deterministic' (their statements: YthaoiajbgadcjaaTotals.lean).
  GIVEN WITH THE SEED: the statements are not yours to turn. If you find one false, say at which input.
  Laid BY PROGRAM, IN A SANDBOX (cutbox-rows.mjs): the forced cells as the released guide's own fill.sh prints them over the translation b1c024707c148144… (all of the seat's roots in one cut). By AI agents, Wed Nov 11 2026. No macro, syntax, notation, axiom, sorry.
-/
import Derived.Test.YthaoiajbgadcjaaChecked
import GoSem.Claim
import GoSem.ClaimJoined
import GoSem.ClaimMapViews
import Derived.JoinedTies
import Derived.KernelRfl
namespace Go.Proofs.Ythaoiajbgadcjaa
/- THE CELL 'sum', in the pinned program and in every row, IS THE sha256 OF THE DUMP (.gsa) THAT YthaoiajbgadcjaaProg.lean LOADS. Nothing in Lean hashes anything: it is a label: what it is worth is what the hold of that sum in a sandbox is worth. -/
noncomputable def Try.pinned : Pinned := { name := "ythaoiajbgadcjaa", sum := "b1c024707c148144e0dac2b162253f498e41a0c2179cc5b643678dc8ca53483e", checked := Try.checked }
namespace Rows
def none {H : Type} : Left H := { results := [], args := [] }

/-- 'chatelainelaw22.CredChecks': WHATEVER THE INPUT: true; the input reads as it did. -/
def credChecksSpec : ChangeSpec := { name := "credChecks", fn := fun _ => fun
  | [d1, d2, d3] => { results := [.lit (.bool true)], args := [d1, d2, d3] }
  | _ => none }
def credChecksRow : OpenClaim := { program := "ythaoiajbgadcjaa", sum := "b1c024707c148144e0dac2b162253f498e41a0c2179cc5b643678dc8ca53483e", func := "chatelaine/chatelainelaw22.CredChecks", spec := "credChecks", inPlace := ["internal/bytealg.IndexByteString"], unfollowed := true, recurses := true, apart := false }
def CredChecksSaid : Prop := credChecksRow.holds Try.pinned (OpenSpec.ofChange credChecksSpec)

/-- ITS FALSE NEIGHBOUR: 'it returns false'. Refute it at one input. -/
def credChecksWrong : ChangeSpec := { name := "credChecks", fn := fun _ => fun
  | [d1, d2, d3] => { results := [.lit (.bool false)], args := [d1, d2, d3] }
  | _ => none }
def CredChecksWrongFalsely : Prop := credChecksRow.holds Try.pinned (OpenSpec.ofChange credChecksWrong)

/-- 'chatelainelaw22.CredSeals': WHATEVER THE INPUT: true; the input reads as it did. -/
def credSealsSpec : ChangeSpec := { name := "credSeals", fn := fun _ => fun
  | [d1, d2] => { results := [.lit (.bool true)], args := [d1, d2] }
  | _ => none }
def credSealsRow : OpenClaim := { program := "ythaoiajbgadcjaa", sum := "b1c024707c148144e0dac2b162253f498e41a0c2179cc5b643678dc8ca53483e", func := "chatelaine/chatelainelaw22.CredSeals", spec := "credSeals", inPlace := ["internal/bytealg.IndexByteString"], unfollowed := true, recurses := true, apart := false }
def CredSealsSaid : Prop := credSealsRow.holds Try.pinned (OpenSpec.ofChange credSealsSpec)

/-- ITS FALSE NEIGHBOUR: 'it returns false'. Refute it at one input. -/
def credSealsWrong : ChangeSpec := { name := "credSeals", fn := fun _ => fun
  | [d1, d2] => { results := [.lit (.bool false)], args := [d1, d2] }
  | _ => none }
def CredSealsWrongFalsely : Prop := credSealsRow.holds Try.pinned (OpenSpec.ofChange credSealsWrong)

/-- 'chatelainelaw22.CredBack': WHATEVER THE INPUT: true; the input reads as it did. -/
def credBackSpec : ChangeSpec := { name := "credBack", fn := fun _ => fun
  | [d1, d2, d3] => { results := [.lit (.bool true)], args := [d1, d2, d3] }
  | _ => none }
def credBackRow : OpenClaim := { program := "ythaoiajbgadcjaa", sum := "b1c024707c148144e0dac2b162253f498e41a0c2179cc5b643678dc8ca53483e", func := "chatelaine/chatelainelaw22.CredBack", spec := "credBack", inPlace := ["internal/bytealg.IndexByteString"], unfollowed := true, recurses := true, apart := false }
def CredBackSaid : Prop := credBackRow.holds Try.pinned (OpenSpec.ofChange credBackSpec)

/-- ITS FALSE NEIGHBOUR: 'it returns false'. Refute it at one input. -/
def credBackWrong : ChangeSpec := { name := "credBack", fn := fun _ => fun
  | [d1, d2, d3] => { results := [.lit (.bool false)], args := [d1, d2, d3] }
  | _ => none }
def CredBackWrongFalsely : Prop := credBackRow.holds Try.pinned (OpenSpec.ofChange credBackWrong)

/- THE SECOND FORM. 'bulk': how many values and letters a reading holds, each counted each time it is reached (what is shared counts as often as it is met; a slice's spare places count too). A statement '..UptoSaid' is the law's where the arguments, and the package variables that the reading takes, are together of bulk at most 1048576: NARROWER than '..Said'. Prove '..Said' where nothing that the law and all that it calls make is longer than what came in: it says more and counts as full. Else prove '..UptoSaid'. A law counts once. -/
mutual
def uptoBulk {H : Type} : DataW H → Nat
  | .lit (.string bytes) => bytes.length + 1
  | .lit _ => 1
  | .nil => 1
  | .ptr d => uptoBulk d + 1
  | .slice elems spare => uptoBulkAll elems + uptoBulkAll spare + 1
  | .agg parts => uptoBulkAll parts + 1
  | .iface _ d => uptoBulk d + 1
  | .map entries => uptoBulkEntries entries + 1
  | .held _ => 1
def uptoBulkAll {H : Type} : List (DataW H) → Nat
  | [] => 0
  | d :: r => uptoBulk d + uptoBulkAll r
def uptoBulkEntries {H : Type} : List (Lit × DataW H) → Nat
  | [] => 0
  | x :: r => uptoBulkEntry x + uptoBulkEntries r
def uptoBulkEntry {H : Type} : Lit × DataW H → Nat
  | (.string bytes, d) => bytes.length + uptoBulk d + 1
  | (_, d) => uptoBulk d + 1
 end
def uptoSmall : (H : Type) → List (DataW H) → Bool := fun _ ds => decide (uptoBulkAll ds ≤ 1048576)
def OpenSpec.upto (s : _root_.Go.ChangeSpec) : _root_.Go.OpenSpec := { _root_.Go.OpenSpec.ofChange s with cond := some uptoSmall }

/-- 'chatelainelaw22.CredChecks', WHERE WHAT IT READS IS OF BULK AT MOST 1048576: true; the input reads as it did. -/
def credChecksUptoRow : OpenClaim := { program := "ythaoiajbgadcjaa", sum := "b1c024707c148144e0dac2b162253f498e41a0c2179cc5b643678dc8ca53483e", func := "chatelaine/chatelainelaw22.CredChecks", spec := "credChecks", inPlace := ["internal/bytealg.IndexByteString"], unfollowed := true, recurses := true, apart := false, narrowed := true }
def CredChecksUptoSaid : Prop := credChecksUptoRow.holds Try.pinned (OpenSpec.upto credChecksSpec)

/-- 'chatelainelaw22.CredSeals', WHERE WHAT IT READS IS OF BULK AT MOST 1048576: true; the input reads as it did. -/
def credSealsUptoRow : OpenClaim := { program := "ythaoiajbgadcjaa", sum := "b1c024707c148144e0dac2b162253f498e41a0c2179cc5b643678dc8ca53483e", func := "chatelaine/chatelainelaw22.CredSeals", spec := "credSeals", inPlace := ["internal/bytealg.IndexByteString"], unfollowed := true, recurses := true, apart := false, narrowed := true }
def CredSealsUptoSaid : Prop := credSealsUptoRow.holds Try.pinned (OpenSpec.upto credSealsSpec)

/-- 'chatelainelaw22.CredBack', WHERE WHAT IT READS IS OF BULK AT MOST 1048576: true; the input reads as it did. -/
def credBackUptoRow : OpenClaim := { program := "ythaoiajbgadcjaa", sum := "b1c024707c148144e0dac2b162253f498e41a0c2179cc5b643678dc8ca53483e", func := "chatelaine/chatelainelaw22.CredBack", spec := "credBack", inPlace := ["internal/bytealg.IndexByteString"], unfollowed := true, recurses := true, apart := false, narrowed := true }
def CredBackUptoSaid : Prop := credBackUptoRow.holds Try.pinned (OpenSpec.upto credBackSpec)

end Rows
end Go.Proofs.Ythaoiajbgadcjaa
