/-
  No cell of these rows narrows 'for every input' (looked for: loops, veiled, ifaces, maps, wideKeys, modest, calm, conditions, laid).
  DERIVED. THE GIVEN ROWS OF THIS SEAT. 3 by the template 'for every input the law returns true; each argument reads behind the call as it read before'; 0 by the template 'total and deterministic' (their statements: YtcjleeclpmgbjaaTotals.lean).
  GIVEN WITH THE SEED: the statements are not yours to turn. If you find one false, say at which input.
  Laid BY PROGRAM, IN A SANDBOX (cutbox-rows.mjs): the forced cells as the released guide's own fill.sh prints them over the translation ffb15531f6df739b… (all of the seat's roots in one cut). By AI agents, Wed Nov 11 2026. No macro, syntax, notation, axiom, sorry.
-/
import Derived.Test.YtcjleeclpmgbjaaChecked
import GoSem.Claim
import GoSem.ClaimJoined
import GoSem.ClaimMapViews
import Derived.JoinedTies
import Derived.KernelRfl
namespace Go.Proofs.Ytcjleeclpmgbjaa
/- THE CELL 'sum', in the pinned program and in every row, IS THE sha256 OF THE DUMP (.gsa) THAT YtcjleeclpmgbjaaProg.lean LOADS. Nothing in Lean hashes anything: it is a label: what it is worth is what the hold of that sum in a sandbox is worth. -/
noncomputable def Try.pinned : Pinned := { name := "ytcjleeclpmgbjaa", sum := "ffb15531f6df739b3889b4b05a372c75ef793ad2a2290dd2354cbfabb5760902", checked := Try.checked }
namespace Rows
def none {H : Type} : Left H := { results := [], args := [] }

/-- 'chatelainelaw43.LotNumbers': WHATEVER THE INPUT: true; the input reads as it did. -/
def lotNumbersSpec : ChangeSpec := { name := "lotNumbers", fn := fun _ => fun
  | [d1, d2, d3] => { results := [.lit (.bool true)], args := [d1, d2, d3] }
  | _ => none }
def lotNumbersRow : OpenClaim := { program := "ytcjleeclpmgbjaa", sum := "ffb15531f6df739b3889b4b05a372c75ef793ad2a2290dd2354cbfabb5760902", func := "chatelaine/chatelainelaw43.LotNumbers", spec := "lotNumbers", unfollowed := true, recurses := true, apart := false }
def LotNumbersSaid : Prop := lotNumbersRow.holds Try.pinned (OpenSpec.ofChange lotNumbersSpec)

/-- ITS FALSE NEIGHBOUR: 'it returns false'. Refute it at one input. -/
def lotNumbersWrong : ChangeSpec := { name := "lotNumbers", fn := fun _ => fun
  | [d1, d2, d3] => { results := [.lit (.bool false)], args := [d1, d2, d3] }
  | _ => none }
def LotNumbersWrongFalsely : Prop := lotNumbersRow.holds Try.pinned (OpenSpec.ofChange lotNumbersWrong)

/-- 'chatelainelaw43.LotOps': WHATEVER THE INPUT: true; the input reads as it did. -/
def lotOpsSpec : ChangeSpec := { name := "lotOps", fn := fun _ => fun
  | [d1, d2, d3] => { results := [.lit (.bool true)], args := [d1, d2, d3] }
  | _ => none }
def lotOpsRow : OpenClaim := { program := "ytcjleeclpmgbjaa", sum := "ffb15531f6df739b3889b4b05a372c75ef793ad2a2290dd2354cbfabb5760902", func := "chatelaine/chatelainelaw43.LotOps", spec := "lotOps", unfollowed := true, recurses := true, apart := false }
def LotOpsSaid : Prop := lotOpsRow.holds Try.pinned (OpenSpec.ofChange lotOpsSpec)

/-- ITS FALSE NEIGHBOUR: 'it returns false'. Refute it at one input. -/
def lotOpsWrong : ChangeSpec := { name := "lotOps", fn := fun _ => fun
  | [d1, d2, d3] => { results := [.lit (.bool false)], args := [d1, d2, d3] }
  | _ => none }
def LotOpsWrongFalsely : Prop := lotOpsRow.holds Try.pinned (OpenSpec.ofChange lotOpsWrong)

/-- 'chatelainelaw46.CodeLetters': WHATEVER THE INPUT: true; the input reads as it did. -/
def codeLettersSpec : ChangeSpec := { name := "codeLetters", fn := fun _ => fun
  | [d1, d2, d3] => { results := [.lit (.bool true)], args := [d1, d2, d3] }
  | _ => none }
def codeLettersRow : OpenClaim := { program := "ytcjleeclpmgbjaa", sum := "ffb15531f6df739b3889b4b05a372c75ef793ad2a2290dd2354cbfabb5760902", func := "chatelaine/chatelainelaw46.CodeLetters", spec := "codeLetters", inPlace := ["internal/abi.NoEscape", "internal/bytealg.MakeNoZero", "internal/bytealg.IndexByteString"], unfollowed := true, recurses := true, apart := false }
def CodeLettersSaid : Prop := codeLettersRow.holds Try.pinned (OpenSpec.ofChange codeLettersSpec)

/-- ITS FALSE NEIGHBOUR: 'it returns false'. Refute it at one input. -/
def codeLettersWrong : ChangeSpec := { name := "codeLetters", fn := fun _ => fun
  | [d1, d2, d3] => { results := [.lit (.bool false)], args := [d1, d2, d3] }
  | _ => none }
def CodeLettersWrongFalsely : Prop := codeLettersRow.holds Try.pinned (OpenSpec.ofChange codeLettersWrong)

/- THE SECOND FORM. 'bulk': how many values and letters a reading holds, each counted each time it is reached (what is shared counts as often as it is met; a slice's spare places count too). A statement '..UptoSaid' is the law's where the arguments, and the package variables that the reading takes, are together of bulk at most 1048576: NARROWER than '..Said'. Prove '..Said' where nothing that the law and all that it calls make is longer than what came in: it says more and counts as full. Else prove '..UptoSaid'. A law counts once. -/
mutual
def uptoBulk {H : Type} : DataW H → Nat
  | .lit (.string bytes) => bytes.length + 1
  | .lit _ => 1
  | .nil => 1
  | .ptr d => uptoBulk d + 1
  | .slice elems spare => uptoBulkAll elems + uptoBulkAll spare + 1
  | .agg parts => uptoBulkAll parts + 1
  | .iface _ d => uptoBulk d + 1
  | .map entries => uptoBulkEntries entries + 1
  | .held _ => 1
def uptoBulkAll {H : Type} : List (DataW H) → Nat
  | [] => 0
  | d :: r => uptoBulk d + uptoBulkAll r
def uptoBulkEntries {H : Type} : List (Lit × DataW H) → Nat
  | [] => 0
  | x :: r => uptoBulkEntry x + uptoBulkEntries r
def uptoBulkEntry {H : Type} : Lit × DataW H → Nat
  | (.string bytes, d) => bytes.length + uptoBulk d + 1
  | (_, d) => uptoBulk d + 1
 end
def uptoSmall : (H : Type) → List (DataW H) → Bool := fun _ ds => decide (uptoBulkAll ds ≤ 1048576)
def OpenSpec.upto (s : _root_.Go.ChangeSpec) : _root_.Go.OpenSpec := { _root_.Go.OpenSpec.ofChange s with cond := some uptoSmall }

/-- 'chatelainelaw43.LotNumbers', WHERE WHAT IT READS IS OF BULK AT MOST 1048576: true; the input reads as it did. -/
def lotNumbersUptoRow : OpenClaim := { program := "ytcjleeclpmgbjaa", sum := "ffb15531f6df739b3889b4b05a372c75ef793ad2a2290dd2354cbfabb5760902", func := "chatelaine/chatelainelaw43.LotNumbers", spec := "lotNumbers", unfollowed := true, recurses := true, apart := false, narrowed := true }
def LotNumbersUptoSaid : Prop := lotNumbersUptoRow.holds Try.pinned (OpenSpec.upto lotNumbersSpec)

/-- 'chatelainelaw43.LotOps', WHERE WHAT IT READS IS OF BULK AT MOST 1048576: true; the input reads as it did. -/
def lotOpsUptoRow : OpenClaim := { program := "ytcjleeclpmgbjaa", sum := "ffb15531f6df739b3889b4b05a372c75ef793ad2a2290dd2354cbfabb5760902", func := "chatelaine/chatelainelaw43.LotOps", spec := "lotOps", unfollowed := true, recurses := true, apart := false, narrowed := true }
def LotOpsUptoSaid : Prop := lotOpsUptoRow.holds Try.pinned (OpenSpec.upto lotOpsSpec)

/-- 'chatelainelaw46.CodeLetters', WHERE WHAT IT READS IS OF BULK AT MOST 1048576: true; the input reads as it did. -/
def codeLettersUptoRow : OpenClaim := { program := "ytcjleeclpmgbjaa", sum := "ffb15531f6df739b3889b4b05a372c75ef793ad2a2290dd2354cbfabb5760902", func := "chatelaine/chatelainelaw46.CodeLetters", spec := "codeLetters", inPlace := ["internal/abi.NoEscape", "internal/bytealg.MakeNoZero", "internal/bytealg.IndexByteString"], unfollowed := true, recurses := true, apart := false, narrowed := true }
def CodeLettersUptoSaid : Prop := codeLettersUptoRow.holds Try.pinned (OpenSpec.upto codeLettersSpec)

end Rows
end Go.Proofs.Ytcjleeclpmgbjaa
