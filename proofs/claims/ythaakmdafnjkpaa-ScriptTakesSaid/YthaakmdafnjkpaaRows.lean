/-
  No cell of these rows narrows 'for every input' (looked for: loops, veiled, ifaces, maps, wideKeys, modest, calm, conditions, laid).
  DERIVED. THE GIVEN ROWS OF THIS SEAT. 10 by the template 'for every input the law returns true; each argument reads behind the call as it read before'; 0 by the template 'total and deterministic' (their statements: YthaakmdafnjkpaaTotals.lean).
  GIVEN WITH THE SEED: the statements are not yours to turn. If you find one false, say at which input.
  Laid BY PROGRAM, IN A SANDBOX (cutbox-rows.mjs): the forced cells as the released guide's own fill.sh prints them over the translation ad70e6be8891592e… (all of the seat's roots in one cut). By AI agents, Wed Nov 11 2026. No macro, syntax, notation, axiom, sorry.
-/
import Derived.Test.YthaakmdafnjkpaaChecked
import GoSem.Claim
import GoSem.ClaimJoined
import GoSem.ClaimMapViews
import Derived.JoinedTies
import Derived.KernelRfl
namespace Go.Proofs.Ythaakmdafnjkpaa
/- THE CELL 'sum', in the pinned program and in every row, IS THE sha256 OF THE DUMP (.gsa) THAT YthaakmdafnjkpaaProg.lean LOADS. Nothing in Lean hashes anything: it is a label: what it is worth is what the hold of that sum in a sandbox is worth. -/
noncomputable def Try.pinned : Pinned := { name := "ythaakmdafnjkpaa", sum := "ad70e6be8891592e6b9199d7e42d2654444dd4f05c3deb2f77fa007e810dfbde", checked := Try.checked }
namespace Rows
def none {H : Type} : Left H := { results := [], args := [] }

/-- 'chatelainelaw29.OpPuts': WHATEVER THE INPUT: true; the input reads as it did. -/
def opPutsSpec : ChangeSpec := { name := "opPuts", fn := fun _ => fun
  | [d1, d2, d3] => { results := [.lit (.bool true)], args := [d1, d2, d3] }
  | _ => none }
def opPutsRow : OpenClaim := { program := "ythaakmdafnjkpaa", sum := "ad70e6be8891592e6b9199d7e42d2654444dd4f05c3deb2f77fa007e810dfbde", func := "chatelaine/chatelainelaw29.OpPuts", spec := "opPuts", apart := false }
def OpPutsSaid : Prop := opPutsRow.holds Try.pinned (OpenSpec.ofChange opPutsSpec)

/-- ITS FALSE NEIGHBOUR: 'it returns false'. Refute it at one input. -/
def opPutsWrong : ChangeSpec := { name := "opPuts", fn := fun _ => fun
  | [d1, d2, d3] => { results := [.lit (.bool false)], args := [d1, d2, d3] }
  | _ => none }
def OpPutsWrongFalsely : Prop := opPutsRow.holds Try.pinned (OpenSpec.ofChange opPutsWrong)

/-- 'chatelainelaw29.OpTakes': WHATEVER THE INPUT: true; the input reads as it did. -/
def opTakesSpec : ChangeSpec := { name := "opTakes", fn := fun _ => fun
  | [d1, d2] => { results := [.lit (.bool true)], args := [d1, d2] }
  | _ => none }
def opTakesRow : OpenClaim := { program := "ythaakmdafnjkpaa", sum := "ad70e6be8891592e6b9199d7e42d2654444dd4f05c3deb2f77fa007e810dfbde", func := "chatelaine/chatelainelaw29.OpTakes", spec := "opTakes", apart := false }
def OpTakesSaid : Prop := opTakesRow.holds Try.pinned (OpenSpec.ofChange opTakesSpec)

/-- ITS FALSE NEIGHBOUR: 'it returns false'. Refute it at one input. -/
def opTakesWrong : ChangeSpec := { name := "opTakes", fn := fun _ => fun
  | [d1, d2] => { results := [.lit (.bool false)], args := [d1, d2] }
  | _ => none }
def OpTakesWrongFalsely : Prop := opTakesRow.holds Try.pinned (OpenSpec.ofChange opTakesWrong)

/-- 'chatelainelaw29.OpBack': WHATEVER THE INPUT: true; the input reads as it did. -/
def opBackSpec : ChangeSpec := { name := "opBack", fn := fun _ => fun
  | [d1, d2, d3] => { results := [.lit (.bool true)], args := [d1, d2, d3] }
  | _ => none }
def opBackRow : OpenClaim := { program := "ythaakmdafnjkpaa", sum := "ad70e6be8891592e6b9199d7e42d2654444dd4f05c3deb2f77fa007e810dfbde", func := "chatelaine/chatelainelaw29.OpBack", spec := "opBack", apart := false }
def OpBackSaid : Prop := opBackRow.holds Try.pinned (OpenSpec.ofChange opBackSpec)

/-- ITS FALSE NEIGHBOUR: 'it returns false'. Refute it at one input. -/
def opBackWrong : ChangeSpec := { name := "opBack", fn := fun _ => fun
  | [d1, d2, d3] => { results := [.lit (.bool false)], args := [d1, d2, d3] }
  | _ => none }
def OpBackWrongFalsely : Prop := opBackRow.holds Try.pinned (OpenSpec.ofChange opBackWrong)

/-- 'chatelainelaw43.LotNumbers': WHATEVER THE INPUT: true; the input reads as it did. -/
def lotNumbersSpec : ChangeSpec := { name := "lotNumbers", fn := fun _ => fun
  | [d1, d2, d3] => { results := [.lit (.bool true)], args := [d1, d2, d3] }
  | _ => none }
def lotNumbersRow : OpenClaim := { program := "ythaakmdafnjkpaa", sum := "ad70e6be8891592e6b9199d7e42d2654444dd4f05c3deb2f77fa007e810dfbde", func := "chatelaine/chatelainelaw43.LotNumbers", spec := "lotNumbers", unfollowed := true, recurses := true, apart := false }
def LotNumbersSaid : Prop := lotNumbersRow.holds Try.pinned (OpenSpec.ofChange lotNumbersSpec)

/-- ITS FALSE NEIGHBOUR: 'it returns false'. Refute it at one input. -/
def lotNumbersWrong : ChangeSpec := { name := "lotNumbers", fn := fun _ => fun
  | [d1, d2, d3] => { results := [.lit (.bool false)], args := [d1, d2, d3] }
  | _ => none }
def LotNumbersWrongFalsely : Prop := lotNumbersRow.holds Try.pinned (OpenSpec.ofChange lotNumbersWrong)

/-- 'chatelainelaw43.LotOps': WHATEVER THE INPUT: true; the input reads as it did. -/
def lotOpsSpec : ChangeSpec := { name := "lotOps", fn := fun _ => fun
  | [d1, d2, d3] => { results := [.lit (.bool true)], args := [d1, d2, d3] }
  | _ => none }
def lotOpsRow : OpenClaim := { program := "ythaakmdafnjkpaa", sum := "ad70e6be8891592e6b9199d7e42d2654444dd4f05c3deb2f77fa007e810dfbde", func := "chatelaine/chatelainelaw43.LotOps", spec := "lotOps", unfollowed := true, recurses := true, apart := false }
def LotOpsSaid : Prop := lotOpsRow.holds Try.pinned (OpenSpec.ofChange lotOpsSpec)

/-- ITS FALSE NEIGHBOUR: 'it returns false'. Refute it at one input. -/
def lotOpsWrong : ChangeSpec := { name := "lotOps", fn := fun _ => fun
  | [d1, d2, d3] => { results := [.lit (.bool false)], args := [d1, d2, d3] }
  | _ => none }
def LotOpsWrongFalsely : Prop := lotOpsRow.holds Try.pinned (OpenSpec.ofChange lotOpsWrong)

/-- 'chatelainelaw43.LotDone': WHATEVER THE INPUT: true; the input reads as it did. -/
def lotDoneSpec : ChangeSpec := { name := "lotDone", fn := fun _ => fun
  | [d1, d2] => { results := [.lit (.bool true)], args := [d1, d2] }
  | _ => none }
def lotDoneRow : OpenClaim := { program := "ythaakmdafnjkpaa", sum := "ad70e6be8891592e6b9199d7e42d2654444dd4f05c3deb2f77fa007e810dfbde", func := "chatelaine/chatelainelaw43.LotDone", spec := "lotDone", unfollowed := true, recurses := true, apart := false }
def LotDoneSaid : Prop := lotDoneRow.holds Try.pinned (OpenSpec.ofChange lotDoneSpec)

/-- ITS FALSE NEIGHBOUR: 'it returns false'. Refute it at one input. -/
def lotDoneWrong : ChangeSpec := { name := "lotDone", fn := fun _ => fun
  | [d1, d2] => { results := [.lit (.bool false)], args := [d1, d2] }
  | _ => none }
def LotDoneWrongFalsely : Prop := lotDoneRow.holds Try.pinned (OpenSpec.ofChange lotDoneWrong)

/-- 'chatelainelaw33.ScriptTakes': WHATEVER THE INPUT: true; the input reads as it did. -/
def scriptTakesSpec : ChangeSpec := { name := "scriptTakes", fn := fun _ => fun
  | [d1, d2, d3] => { results := [.lit (.bool true)], args := [d1, d2, d3] }
  | _ => none }
def scriptTakesRow : OpenClaim := { program := "ythaakmdafnjkpaa", sum := "ad70e6be8891592e6b9199d7e42d2654444dd4f05c3deb2f77fa007e810dfbde", func := "chatelaine/chatelainelaw33.ScriptTakes", spec := "scriptTakes", apart := false }
def ScriptTakesSaid : Prop := scriptTakesRow.holds Try.pinned (OpenSpec.ofChange scriptTakesSpec)

/-- ITS FALSE NEIGHBOUR: 'it returns false'. Refute it at one input. -/
def scriptTakesWrong : ChangeSpec := { name := "scriptTakes", fn := fun _ => fun
  | [d1, d2, d3] => { results := [.lit (.bool false)], args := [d1, d2, d3] }
  | _ => none }
def ScriptTakesWrongFalsely : Prop := scriptTakesRow.holds Try.pinned (OpenSpec.ofChange scriptTakesWrong)

/-- 'chatelainelaw30.ModelReads': WHATEVER THE INPUT: true; the input reads as it did. -/
def modelReadsSpec : ChangeSpec := { name := "modelReads", fn := fun _ => fun
  | [d1, d2, d3] => { results := [.lit (.bool true)], args := [d1, d2, d3] }
  | _ => none }
def modelReadsRow : OpenClaim := { program := "ythaakmdafnjkpaa", sum := "ad70e6be8891592e6b9199d7e42d2654444dd4f05c3deb2f77fa007e810dfbde", func := "chatelaine/chatelainelaw30.ModelReads", spec := "modelReads", unfollowed := true, recurses := true, apart := false }
def ModelReadsSaid : Prop := modelReadsRow.holds Try.pinned (OpenSpec.ofChange modelReadsSpec)

/-- ITS FALSE NEIGHBOUR: 'it returns false'. Refute it at one input. -/
def modelReadsWrong : ChangeSpec := { name := "modelReads", fn := fun _ => fun
  | [d1, d2, d3] => { results := [.lit (.bool false)], args := [d1, d2, d3] }
  | _ => none }
def ModelReadsWrongFalsely : Prop := modelReadsRow.holds Try.pinned (OpenSpec.ofChange modelReadsWrong)

/-- 'chatelainelaw30.ModelPlays': WHATEVER THE INPUT: true; the input reads as it did. -/
def modelPlaysSpec : ChangeSpec := { name := "modelPlays", fn := fun _ => fun
  | [d1, d2] => { results := [.lit (.bool true)], args := [d1, d2] }
  | _ => none }
def modelPlaysRow : OpenClaim := { program := "ythaakmdafnjkpaa", sum := "ad70e6be8891592e6b9199d7e42d2654444dd4f05c3deb2f77fa007e810dfbde", func := "chatelaine/chatelainelaw30.ModelPlays", spec := "modelPlays", unfollowed := true, recurses := true, apart := false }
def ModelPlaysSaid : Prop := modelPlaysRow.holds Try.pinned (OpenSpec.ofChange modelPlaysSpec)

/-- ITS FALSE NEIGHBOUR: 'it returns false'. Refute it at one input. -/
def modelPlaysWrong : ChangeSpec := { name := "modelPlays", fn := fun _ => fun
  | [d1, d2] => { results := [.lit (.bool false)], args := [d1, d2] }
  | _ => none }
def ModelPlaysWrongFalsely : Prop := modelPlaysRow.holds Try.pinned (OpenSpec.ofChange modelPlaysWrong)

/-- 'chatelainelaw30.ModelStays': WHATEVER THE INPUT: true; the input reads as it did. -/
def modelStaysSpec : ChangeSpec := { name := "modelStays", fn := fun _ => fun
  | [d1, d2] => { results := [.lit (.bool true)], args := [d1, d2] }
  | _ => none }
def modelStaysRow : OpenClaim := { program := "ythaakmdafnjkpaa", sum := "ad70e6be8891592e6b9199d7e42d2654444dd4f05c3deb2f77fa007e810dfbde", func := "chatelaine/chatelainelaw30.ModelStays", spec := "modelStays", inPlace := ["maps.clone"], unfollowed := true, recurses := true, apart := false }
def ModelStaysSaid : Prop := modelStaysRow.holds Try.pinned (OpenSpec.ofChange modelStaysSpec)

/-- ITS FALSE NEIGHBOUR: 'it returns false'. Refute it at one input. -/
def modelStaysWrong : ChangeSpec := { name := "modelStays", fn := fun _ => fun
  | [d1, d2] => { results := [.lit (.bool false)], args := [d1, d2] }
  | _ => none }
def ModelStaysWrongFalsely : Prop := modelStaysRow.holds Try.pinned (OpenSpec.ofChange modelStaysWrong)

/- THE SECOND FORM. 'bulk': how many values and letters a reading holds, each counted each time it is reached (what is shared counts as often as it is met; a slice's spare places count too). A statement '..UptoSaid' is the law's where the arguments, and the package variables that the reading takes, are together of bulk at most 1048576: NARROWER than '..Said'. Prove '..Said' where nothing that the law and all that it calls make is longer than what came in: it says more and counts as full. Else prove '..UptoSaid'. A law counts once. -/
mutual
def uptoBulk {H : Type} : DataW H → Nat
  | .lit (.string bytes) => bytes.length + 1
  | .lit _ => 1
  | .nil => 1
  | .ptr d => uptoBulk d + 1
  | .slice elems spare => uptoBulkAll elems + uptoBulkAll spare + 1
  | .agg parts => uptoBulkAll parts + 1
  | .iface _ d => uptoBulk d + 1
  | .map entries => uptoBulkEntries entries + 1
  | .held _ => 1
def uptoBulkAll {H : Type} : List (DataW H) → Nat
  | [] => 0
  | d :: r => uptoBulk d + uptoBulkAll r
def uptoBulkEntries {H : Type} : List (Lit × DataW H) → Nat
  | [] => 0
  | x :: r => uptoBulkEntry x + uptoBulkEntries r
def uptoBulkEntry {H : Type} : Lit × DataW H → Nat
  | (.string bytes, d) => bytes.length + uptoBulk d + 1
  | (_, d) => uptoBulk d + 1
 end
def uptoSmall : (H : Type) → List (DataW H) → Bool := fun _ ds => decide (uptoBulkAll ds ≤ 1048576)
def OpenSpec.upto (s : _root_.Go.ChangeSpec) : _root_.Go.OpenSpec := { _root_.Go.OpenSpec.ofChange s with cond := some uptoSmall }

/-- 'chatelainelaw29.OpPuts', WHERE WHAT IT READS IS OF BULK AT MOST 1048576: true; the input reads as it did. -/
def opPutsUptoRow : OpenClaim := { program := "ythaakmdafnjkpaa", sum := "ad70e6be8891592e6b9199d7e42d2654444dd4f05c3deb2f77fa007e810dfbde", func := "chatelaine/chatelainelaw29.OpPuts", spec := "opPuts", apart := false, narrowed := true }
def OpPutsUptoSaid : Prop := opPutsUptoRow.holds Try.pinned (OpenSpec.upto opPutsSpec)

/-- 'chatelainelaw29.OpTakes', WHERE WHAT IT READS IS OF BULK AT MOST 1048576: true; the input reads as it did. -/
def opTakesUptoRow : OpenClaim := { program := "ythaakmdafnjkpaa", sum := "ad70e6be8891592e6b9199d7e42d2654444dd4f05c3deb2f77fa007e810dfbde", func := "chatelaine/chatelainelaw29.OpTakes", spec := "opTakes", apart := false, narrowed := true }
def OpTakesUptoSaid : Prop := opTakesUptoRow.holds Try.pinned (OpenSpec.upto opTakesSpec)

/-- 'chatelainelaw29.OpBack', WHERE WHAT IT READS IS OF BULK AT MOST 1048576: true; the input reads as it did. -/
def opBackUptoRow : OpenClaim := { program := "ythaakmdafnjkpaa", sum := "ad70e6be8891592e6b9199d7e42d2654444dd4f05c3deb2f77fa007e810dfbde", func := "chatelaine/chatelainelaw29.OpBack", spec := "opBack", apart := false, narrowed := true }
def OpBackUptoSaid : Prop := opBackUptoRow.holds Try.pinned (OpenSpec.upto opBackSpec)

/-- 'chatelainelaw43.LotNumbers', WHERE WHAT IT READS IS OF BULK AT MOST 1048576: true; the input reads as it did. -/
def lotNumbersUptoRow : OpenClaim := { program := "ythaakmdafnjkpaa", sum := "ad70e6be8891592e6b9199d7e42d2654444dd4f05c3deb2f77fa007e810dfbde", func := "chatelaine/chatelainelaw43.LotNumbers", spec := "lotNumbers", unfollowed := true, recurses := true, apart := false, narrowed := true }
def LotNumbersUptoSaid : Prop := lotNumbersUptoRow.holds Try.pinned (OpenSpec.upto lotNumbersSpec)

/-- 'chatelainelaw43.LotOps', WHERE WHAT IT READS IS OF BULK AT MOST 1048576: true; the input reads as it did. -/
def lotOpsUptoRow : OpenClaim := { program := "ythaakmdafnjkpaa", sum := "ad70e6be8891592e6b9199d7e42d2654444dd4f05c3deb2f77fa007e810dfbde", func := "chatelaine/chatelainelaw43.LotOps", spec := "lotOps", unfollowed := true, recurses := true, apart := false, narrowed := true }
def LotOpsUptoSaid : Prop := lotOpsUptoRow.holds Try.pinned (OpenSpec.upto lotOpsSpec)

/-- 'chatelainelaw43.LotDone', WHERE WHAT IT READS IS OF BULK AT MOST 1048576: true; the input reads as it did. -/
def lotDoneUptoRow : OpenClaim := { program := "ythaakmdafnjkpaa", sum := "ad70e6be8891592e6b9199d7e42d2654444dd4f05c3deb2f77fa007e810dfbde", func := "chatelaine/chatelainelaw43.LotDone", spec := "lotDone", unfollowed := true, recurses := true, apart := false, narrowed := true }
def LotDoneUptoSaid : Prop := lotDoneUptoRow.holds Try.pinned (OpenSpec.upto lotDoneSpec)

/-- 'chatelainelaw33.ScriptTakes', WHERE WHAT IT READS IS OF BULK AT MOST 1048576: true; the input reads as it did. -/
def scriptTakesUptoRow : OpenClaim := { program := "ythaakmdafnjkpaa", sum := "ad70e6be8891592e6b9199d7e42d2654444dd4f05c3deb2f77fa007e810dfbde", func := "chatelaine/chatelainelaw33.ScriptTakes", spec := "scriptTakes", apart := false, narrowed := true }
def ScriptTakesUptoSaid : Prop := scriptTakesUptoRow.holds Try.pinned (OpenSpec.upto scriptTakesSpec)

/-- 'chatelainelaw30.ModelReads', WHERE WHAT IT READS IS OF BULK AT MOST 1048576: true; the input reads as it did. -/
def modelReadsUptoRow : OpenClaim := { program := "ythaakmdafnjkpaa", sum := "ad70e6be8891592e6b9199d7e42d2654444dd4f05c3deb2f77fa007e810dfbde", func := "chatelaine/chatelainelaw30.ModelReads", spec := "modelReads", unfollowed := true, recurses := true, apart := false, narrowed := true }
def ModelReadsUptoSaid : Prop := modelReadsUptoRow.holds Try.pinned (OpenSpec.upto modelReadsSpec)

/-- 'chatelainelaw30.ModelPlays', WHERE WHAT IT READS IS OF BULK AT MOST 1048576: true; the input reads as it did. -/
def modelPlaysUptoRow : OpenClaim := { program := "ythaakmdafnjkpaa", sum := "ad70e6be8891592e6b9199d7e42d2654444dd4f05c3deb2f77fa007e810dfbde", func := "chatelaine/chatelainelaw30.ModelPlays", spec := "modelPlays", unfollowed := true, recurses := true, apart := false, narrowed := true }
def ModelPlaysUptoSaid : Prop := modelPlaysUptoRow.holds Try.pinned (OpenSpec.upto modelPlaysSpec)

/-- 'chatelainelaw30.ModelStays', WHERE WHAT IT READS IS OF BULK AT MOST 1048576: true; the input reads as it did. -/
def modelStaysUptoRow : OpenClaim := { program := "ythaakmdafnjkpaa", sum := "ad70e6be8891592e6b9199d7e42d2654444dd4f05c3deb2f77fa007e810dfbde", func := "chatelaine/chatelainelaw30.ModelStays", spec := "modelStays", inPlace := ["maps.clone"], unfollowed := true, recurses := true, apart := false, narrowed := true }
def ModelStaysUptoSaid : Prop := modelStaysUptoRow.holds Try.pinned (OpenSpec.upto modelStaysSpec)

end Rows
end Go.Proofs.Ythaakmdafnjkpaa
