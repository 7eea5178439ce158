/-
  No cell of these rows narrows 'for every input' (looked for: loops, veiled, ifaces, maps, wideKeys, modest, calm, conditions, laid).
  DERIVED. THE GIVEN ROWS OF THIS SEAT. 12 by the template 'for every input the law returns true; each argument reads behind the call as it read before'; 0 by the template 'total and deterministic' (their statements: YtdahdlidpplllaaTotals.lean).
  GIVEN WITH THE SEED: the statements are not yours to turn. If you find one false, say at which input.
  Laid BY PROGRAM, IN A SANDBOX (cutbox-rows.mjs): the forced cells as the released guide's own fill.sh prints them over the translation 567c00579d0b3588… (all of the seat's roots in one cut). By AI agents, Wed Nov 11 2026. No macro, syntax, notation, axiom, sorry.
-/
import Derived.Test.YtdahdlidpplllaaChecked
import GoSem.Claim
import GoSem.ClaimJoined
import GoSem.ClaimMapViews
import Derived.JoinedTies
import Derived.KernelRfl
namespace Go.Proofs.Ytdahdlidpplllaa
/- THE CELL 'sum', in the pinned program and in every row, IS THE sha256 OF THE DUMP (.gsa) THAT YtdahdlidpplllaaProg.lean LOADS. Nothing in Lean hashes anything: it is a label: what it is worth is what the hold of that sum in a sandbox is worth. -/
noncomputable def Try.pinned : Pinned := { name := "ytdahdlidpplllaa", sum := "567c00579d0b3588d1b74fa77113cc5af07cb62eb4257c8989017dac4bbe27e3", checked := Try.checked }
namespace Rows
def none {H : Type} : Left H := { results := [], args := [] }

/-- 'chatelainelaw01.WordTurns': WHATEVER THE INPUT: true; the input reads as it did. -/
def wordTurnsSpec : ChangeSpec := { name := "wordTurns", fn := fun _ => fun
  | [d1, d2, d3] => { results := [.lit (.bool true)], args := [d1, d2, d3] }
  | _ => none }
def wordTurnsRow : OpenClaim := { program := "ytdahdlidpplllaa", sum := "567c00579d0b3588d1b74fa77113cc5af07cb62eb4257c8989017dac4bbe27e3", func := "chatelaine/chatelainelaw01.WordTurns", spec := "wordTurns", plainKeys := false, apart := false }
def WordTurnsSaid : Prop := wordTurnsRow.holds Try.pinned (OpenSpec.ofChange wordTurnsSpec)

/-- ITS FALSE NEIGHBOUR: 'it returns false'. Refute it at one input. -/
def wordTurnsWrong : ChangeSpec := { name := "wordTurns", fn := fun _ => fun
  | [d1, d2, d3] => { results := [.lit (.bool false)], args := [d1, d2, d3] }
  | _ => none }
def WordTurnsWrongFalsely : Prop := wordTurnsRow.holds Try.pinned (OpenSpec.ofChange wordTurnsWrong)

/-- 'chatelainelaw01.WordNumbers': WHATEVER THE INPUT: true; the input reads as it did. -/
def wordNumbersSpec : ChangeSpec := { name := "wordNumbers", fn := fun _ => fun
  | [d1, d2, d3] => { results := [.lit (.bool true)], args := [d1, d2, d3] }
  | _ => none }
def wordNumbersRow : OpenClaim := { program := "ytdahdlidpplllaa", sum := "567c00579d0b3588d1b74fa77113cc5af07cb62eb4257c8989017dac4bbe27e3", func := "chatelaine/chatelainelaw01.WordNumbers", spec := "wordNumbers", plainKeys := false, apart := false }
def WordNumbersSaid : Prop := wordNumbersRow.holds Try.pinned (OpenSpec.ofChange wordNumbersSpec)

/-- ITS FALSE NEIGHBOUR: 'it returns false'. Refute it at one input. -/
def wordNumbersWrong : ChangeSpec := { name := "wordNumbers", fn := fun _ => fun
  | [d1, d2, d3] => { results := [.lit (.bool false)], args := [d1, d2, d3] }
  | _ => none }
def WordNumbersWrongFalsely : Prop := wordNumbersRow.holds Try.pinned (OpenSpec.ofChange wordNumbersWrong)

/-- 'chatelainelaw01.WordBack': WHATEVER THE INPUT: true; the input reads as it did. -/
def wordBackSpec : ChangeSpec := { name := "wordBack", fn := fun _ => fun
  | [d1, d2, d3] => { results := [.lit (.bool true)], args := [d1, d2, d3] }
  | _ => none }
def wordBackRow : OpenClaim := { program := "ytdahdlidpplllaa", sum := "567c00579d0b3588d1b74fa77113cc5af07cb62eb4257c8989017dac4bbe27e3", func := "chatelaine/chatelainelaw01.WordBack", spec := "wordBack", plainKeys := false, apart := false }
def WordBackSaid : Prop := wordBackRow.holds Try.pinned (OpenSpec.ofChange wordBackSpec)

/-- ITS FALSE NEIGHBOUR: 'it returns false'. Refute it at one input. -/
def wordBackWrong : ChangeSpec := { name := "wordBack", fn := fun _ => fun
  | [d1, d2, d3] => { results := [.lit (.bool false)], args := [d1, d2, d3] }
  | _ => none }
def WordBackWrongFalsely : Prop := wordBackRow.holds Try.pinned (OpenSpec.ofChange wordBackWrong)

/-- 'chatelainelaw01.WordWide': WHATEVER THE INPUT: true; the input reads as it did. -/
def wordWideSpec : ChangeSpec := { name := "wordWide", fn := fun _ => fun
  | [d1, d2] => { results := [.lit (.bool true)], args := [d1, d2] }
  | _ => none }
def wordWideRow : OpenClaim := { program := "ytdahdlidpplllaa", sum := "567c00579d0b3588d1b74fa77113cc5af07cb62eb4257c8989017dac4bbe27e3", func := "chatelaine/chatelainelaw01.WordWide", spec := "wordWide", plainKeys := false, apart := false }
def WordWideSaid : Prop := wordWideRow.holds Try.pinned (OpenSpec.ofChange wordWideSpec)

/-- ITS FALSE NEIGHBOUR: 'it returns false'. Refute it at one input. -/
def wordWideWrong : ChangeSpec := { name := "wordWide", fn := fun _ => fun
  | [d1, d2] => { results := [.lit (.bool false)], args := [d1, d2] }
  | _ => none }
def WordWideWrongFalsely : Prop := wordWideRow.holds Try.pinned (OpenSpec.ofChange wordWideWrong)

/-- 'chatelainelaw16.AnchorSets': WHATEVER THE INPUT: true; the input reads as it did. -/
def anchorSetsSpec : ChangeSpec := { name := "anchorSets", fn := fun _ => fun
  | [d1, d2, d3] => { results := [.lit (.bool true)], args := [d1, d2, d3] }
  | _ => none }
def anchorSetsRow : OpenClaim := { program := "ytdahdlidpplllaa", sum := "567c00579d0b3588d1b74fa77113cc5af07cb62eb4257c8989017dac4bbe27e3", func := "chatelaine/chatelainelaw16.AnchorSets", spec := "anchorSets", plainKeys := false, apart := false }
def AnchorSetsSaid : Prop := anchorSetsRow.holds Try.pinned (OpenSpec.ofChange anchorSetsSpec)

/-- ITS FALSE NEIGHBOUR: 'it returns false'. Refute it at one input. -/
def anchorSetsWrong : ChangeSpec := { name := "anchorSets", fn := fun _ => fun
  | [d1, d2, d3] => { results := [.lit (.bool false)], args := [d1, d2, d3] }
  | _ => none }
def AnchorSetsWrongFalsely : Prop := anchorSetsRow.holds Try.pinned (OpenSpec.ofChange anchorSetsWrong)

/-- 'chatelainelaw12.FieldWrites': WHATEVER THE INPUT: true; the input reads as it did. -/
def fieldWritesSpec : ChangeSpec := { name := "fieldWrites", fn := fun _ => fun
  | [d] => { results := [.lit (.bool true)], args := [d] }
  | _ => none }
def fieldWritesRow : OpenClaim := { program := "ytdahdlidpplllaa", sum := "567c00579d0b3588d1b74fa77113cc5af07cb62eb4257c8989017dac4bbe27e3", func := "chatelaine/chatelainelaw12.FieldWrites", spec := "fieldWrites", plainKeys := false, apart := false }
def FieldWritesSaid : Prop := fieldWritesRow.holds Try.pinned (OpenSpec.ofChange fieldWritesSpec)

/-- ITS FALSE NEIGHBOUR: 'it returns false'. Refute it at one input. -/
def fieldWritesWrong : ChangeSpec := { name := "fieldWrites", fn := fun _ => fun
  | [d] => { results := [.lit (.bool false)], args := [d] }
  | _ => none }
def FieldWritesWrongFalsely : Prop := fieldWritesRow.holds Try.pinned (OpenSpec.ofChange fieldWritesWrong)

/-- 'chatelainelaw20.PathPlaces': WHATEVER THE INPUT: true; the input reads as it did. -/
def pathPlacesSpec : ChangeSpec := { name := "pathPlaces", fn := fun _ => fun
  | [d1, d2, d3] => { results := [.lit (.bool true)], args := [d1, d2, d3] }
  | _ => none }
def pathPlacesRow : OpenClaim := { program := "ytdahdlidpplllaa", sum := "567c00579d0b3588d1b74fa77113cc5af07cb62eb4257c8989017dac4bbe27e3", func := "chatelaine/chatelainelaw20.PathPlaces", spec := "pathPlaces", unfollowed := true, recurses := true, plainKeys := false, apart := false }
def PathPlacesSaid : Prop := pathPlacesRow.holds Try.pinned (OpenSpec.ofChange pathPlacesSpec)

/-- ITS FALSE NEIGHBOUR: 'it returns false'. Refute it at one input. -/
def pathPlacesWrong : ChangeSpec := { name := "pathPlaces", fn := fun _ => fun
  | [d1, d2, d3] => { results := [.lit (.bool false)], args := [d1, d2, d3] }
  | _ => none }
def PathPlacesWrongFalsely : Prop := pathPlacesRow.holds Try.pinned (OpenSpec.ofChange pathPlacesWrong)

/-- 'chatelainelaw39.TwinNames': WHATEVER THE INPUT: true; the input reads as it did. -/
def twinNamesSpec : ChangeSpec := { name := "twinNames", fn := fun _ => fun
  | [d1, d2, d3] => { results := [.lit (.bool true)], args := [d1, d2, d3] }
  | _ => none }
def twinNamesRow : OpenClaim := { program := "ytdahdlidpplllaa", sum := "567c00579d0b3588d1b74fa77113cc5af07cb62eb4257c8989017dac4bbe27e3", func := "chatelaine/chatelainelaw39.TwinNames", spec := "twinNames", plainKeys := false, apart := false }
def TwinNamesSaid : Prop := twinNamesRow.holds Try.pinned (OpenSpec.ofChange twinNamesSpec)

/-- ITS FALSE NEIGHBOUR: 'it returns false'. Refute it at one input. -/
def twinNamesWrong : ChangeSpec := { name := "twinNames", fn := fun _ => fun
  | [d1, d2, d3] => { results := [.lit (.bool false)], args := [d1, d2, d3] }
  | _ => none }
def TwinNamesWrongFalsely : Prop := twinNamesRow.holds Try.pinned (OpenSpec.ofChange twinNamesWrong)

/-- 'chatelainelaw20.PathWays': WHATEVER THE INPUT: true; the input reads as it did. -/
def pathWaysSpec : ChangeSpec := { name := "pathWays", fn := fun _ => fun
  | [d1, d2, d3] => { results := [.lit (.bool true)], args := [d1, d2, d3] }
  | _ => none }
def pathWaysRow : OpenClaim := { program := "ytdahdlidpplllaa", sum := "567c00579d0b3588d1b74fa77113cc5af07cb62eb4257c8989017dac4bbe27e3", func := "chatelaine/chatelainelaw20.PathWays", spec := "pathWays", unfollowed := true, recurses := true, plainKeys := false, apart := false }
def PathWaysSaid : Prop := pathWaysRow.holds Try.pinned (OpenSpec.ofChange pathWaysSpec)

/-- ITS FALSE NEIGHBOUR: 'it returns false'. Refute it at one input. -/
def pathWaysWrong : ChangeSpec := { name := "pathWays", fn := fun _ => fun
  | [d1, d2, d3] => { results := [.lit (.bool false)], args := [d1, d2, d3] }
  | _ => none }
def PathWaysWrongFalsely : Prop := pathWaysRow.holds Try.pinned (OpenSpec.ofChange pathWaysWrong)

/-- 'chatelainelaw20.PathOnce': WHATEVER THE INPUT: true; the input reads as it did. -/
def pathOnceSpec : ChangeSpec := { name := "pathOnce", fn := fun _ => fun
  | [d] => { results := [.lit (.bool true)], args := [d] }
  | _ => none }
def pathOnceRow : OpenClaim := { program := "ytdahdlidpplllaa", sum := "567c00579d0b3588d1b74fa77113cc5af07cb62eb4257c8989017dac4bbe27e3", func := "chatelaine/chatelainelaw20.PathOnce", spec := "pathOnce", unfollowed := true, recurses := true, plainKeys := false, apart := false }
def PathOnceSaid : Prop := pathOnceRow.holds Try.pinned (OpenSpec.ofChange pathOnceSpec)

/-- ITS FALSE NEIGHBOUR: 'it returns false'. Refute it at one input. -/
def pathOnceWrong : ChangeSpec := { name := "pathOnce", fn := fun _ => fun
  | [d] => { results := [.lit (.bool false)], args := [d] }
  | _ => none }
def PathOnceWrongFalsely : Prop := pathOnceRow.holds Try.pinned (OpenSpec.ofChange pathOnceWrong)

/-- 'chatelainelaw36.TermPuts': WHATEVER THE INPUT: true; the input reads as it did. -/
def termPutsSpec : ChangeSpec := { name := "termPuts", fn := fun _ => fun
  | [d] => { results := [.lit (.bool true)], args := [d] }
  | _ => none }
def termPutsRow : OpenClaim := { program := "ytdahdlidpplllaa", sum := "567c00579d0b3588d1b74fa77113cc5af07cb62eb4257c8989017dac4bbe27e3", func := "chatelaine/chatelainelaw36.TermPuts", spec := "termPuts", recurses := true, plainKeys := false, apart := false }
def TermPutsSaid : Prop := termPutsRow.holds Try.pinned (OpenSpec.ofChange termPutsSpec)

/-- ITS FALSE NEIGHBOUR: 'it returns false'. Refute it at one input. -/
def termPutsWrong : ChangeSpec := { name := "termPuts", fn := fun _ => fun
  | [d] => { results := [.lit (.bool false)], args := [d] }
  | _ => none }
def TermPutsWrongFalsely : Prop := termPutsRow.holds Try.pinned (OpenSpec.ofChange termPutsWrong)

/-- 'chatelainelaw36.TermOnce': WHATEVER THE INPUT: true; the input reads as it did. -/
def termOnceSpec : ChangeSpec := { name := "termOnce", fn := fun _ => fun
  | [d] => { results := [.lit (.bool true)], args := [d] }
  | _ => none }
def termOnceRow : OpenClaim := { program := "ytdahdlidpplllaa", sum := "567c00579d0b3588d1b74fa77113cc5af07cb62eb4257c8989017dac4bbe27e3", func := "chatelaine/chatelainelaw36.TermOnce", spec := "termOnce", plainKeys := false, apart := false }
def TermOnceSaid : Prop := termOnceRow.holds Try.pinned (OpenSpec.ofChange termOnceSpec)

/-- ITS FALSE NEIGHBOUR: 'it returns false'. Refute it at one input. -/
def termOnceWrong : ChangeSpec := { name := "termOnce", fn := fun _ => fun
  | [d] => { results := [.lit (.bool false)], args := [d] }
  | _ => none }
def TermOnceWrongFalsely : Prop := termOnceRow.holds Try.pinned (OpenSpec.ofChange termOnceWrong)

/- THE SECOND FORM. 'bulk': how many values and letters a reading holds, each counted each time it is reached (what is shared counts as often as it is met; a slice's spare places count too). A statement '..UptoSaid' is the law's where the arguments, and the package variables that the reading takes, are together of bulk at most 1048576: NARROWER than '..Said'. Prove '..Said' where nothing that the law and all that it calls make is longer than what came in: it says more and counts as full. Else prove '..UptoSaid'. A law counts once. -/
mutual
def uptoBulk {H : Type} : DataW H → Nat
  | .lit (.string bytes) => bytes.length + 1
  | .lit _ => 1
  | .nil => 1
  | .ptr d => uptoBulk d + 1
  | .slice elems spare => uptoBulkAll elems + uptoBulkAll spare + 1
  | .agg parts => uptoBulkAll parts + 1
  | .iface _ d => uptoBulk d + 1
  | .map entries => uptoBulkEntries entries + 1
  | .held _ => 1
def uptoBulkAll {H : Type} : List (DataW H) → Nat
  | [] => 0
  | d :: r => uptoBulk d + uptoBulkAll r
def uptoBulkEntries {H : Type} : List (Lit × DataW H) → Nat
  | [] => 0
  | x :: r => uptoBulkEntry x + uptoBulkEntries r
def uptoBulkEntry {H : Type} : Lit × DataW H → Nat
  | (.string bytes, d) => bytes.length + uptoBulk d + 1
  | (_, d) => uptoBulk d + 1
 end
def uptoSmall : (H : Type) → List (DataW H) → Bool := fun _ ds => decide (uptoBulkAll ds ≤ 1048576)
def OpenSpec.upto (s : _root_.Go.ChangeSpec) : _root_.Go.OpenSpec := { _root_.Go.OpenSpec.ofChange s with cond := some uptoSmall }

/-- 'chatelainelaw01.WordTurns', WHERE WHAT IT READS IS OF BULK AT MOST 1048576: true; the input reads as it did. -/
def wordTurnsUptoRow : OpenClaim := { program := "ytdahdlidpplllaa", sum := "567c00579d0b3588d1b74fa77113cc5af07cb62eb4257c8989017dac4bbe27e3", func := "chatelaine/chatelainelaw01.WordTurns", spec := "wordTurns", plainKeys := false, apart := false, narrowed := true }
def WordTurnsUptoSaid : Prop := wordTurnsUptoRow.holds Try.pinned (OpenSpec.upto wordTurnsSpec)

/-- 'chatelainelaw01.WordNumbers', WHERE WHAT IT READS IS OF BULK AT MOST 1048576: true; the input reads as it did. -/
def wordNumbersUptoRow : OpenClaim := { program := "ytdahdlidpplllaa", sum := "567c00579d0b3588d1b74fa77113cc5af07cb62eb4257c8989017dac4bbe27e3", func := "chatelaine/chatelainelaw01.WordNumbers", spec := "wordNumbers", plainKeys := false, apart := false, narrowed := true }
def WordNumbersUptoSaid : Prop := wordNumbersUptoRow.holds Try.pinned (OpenSpec.upto wordNumbersSpec)

/-- 'chatelainelaw01.WordBack', WHERE WHAT IT READS IS OF BULK AT MOST 1048576: true; the input reads as it did. -/
def wordBackUptoRow : OpenClaim := { program := "ytdahdlidpplllaa", sum := "567c00579d0b3588d1b74fa77113cc5af07cb62eb4257c8989017dac4bbe27e3", func := "chatelaine/chatelainelaw01.WordBack", spec := "wordBack", plainKeys := false, apart := false, narrowed := true }
def WordBackUptoSaid : Prop := wordBackUptoRow.holds Try.pinned (OpenSpec.upto wordBackSpec)

/-- 'chatelainelaw01.WordWide', WHERE WHAT IT READS IS OF BULK AT MOST 1048576: true; the input reads as it did. -/
def wordWideUptoRow : OpenClaim := { program := "ytdahdlidpplllaa", sum := "567c00579d0b3588d1b74fa77113cc5af07cb62eb4257c8989017dac4bbe27e3", func := "chatelaine/chatelainelaw01.WordWide", spec := "wordWide", plainKeys := false, apart := false, narrowed := true }
def WordWideUptoSaid : Prop := wordWideUptoRow.holds Try.pinned (OpenSpec.upto wordWideSpec)

/-- 'chatelainelaw16.AnchorSets', WHERE WHAT IT READS IS OF BULK AT MOST 1048576: true; the input reads as it did. -/
def anchorSetsUptoRow : OpenClaim := { program := "ytdahdlidpplllaa", sum := "567c00579d0b3588d1b74fa77113cc5af07cb62eb4257c8989017dac4bbe27e3", func := "chatelaine/chatelainelaw16.AnchorSets", spec := "anchorSets", plainKeys := false, apart := false, narrowed := true }
def AnchorSetsUptoSaid : Prop := anchorSetsUptoRow.holds Try.pinned (OpenSpec.upto anchorSetsSpec)

/-- 'chatelainelaw12.FieldWrites', WHERE WHAT IT READS IS OF BULK AT MOST 1048576: true; the input reads as it did. -/
def fieldWritesUptoRow : OpenClaim := { program := "ytdahdlidpplllaa", sum := "567c00579d0b3588d1b74fa77113cc5af07cb62eb4257c8989017dac4bbe27e3", func := "chatelaine/chatelainelaw12.FieldWrites", spec := "fieldWrites", plainKeys := false, apart := false, narrowed := true }
def FieldWritesUptoSaid : Prop := fieldWritesUptoRow.holds Try.pinned (OpenSpec.upto fieldWritesSpec)

/-- 'chatelainelaw20.PathPlaces', WHERE WHAT IT READS IS OF BULK AT MOST 1048576: true; the input reads as it did. -/
def pathPlacesUptoRow : OpenClaim := { program := "ytdahdlidpplllaa", sum := "567c00579d0b3588d1b74fa77113cc5af07cb62eb4257c8989017dac4bbe27e3", func := "chatelaine/chatelainelaw20.PathPlaces", spec := "pathPlaces", unfollowed := true, recurses := true, plainKeys := false, apart := false, narrowed := true }
def PathPlacesUptoSaid : Prop := pathPlacesUptoRow.holds Try.pinned (OpenSpec.upto pathPlacesSpec)

/-- 'chatelainelaw39.TwinNames', WHERE WHAT IT READS IS OF BULK AT MOST 1048576: true; the input reads as it did. -/
def twinNamesUptoRow : OpenClaim := { program := "ytdahdlidpplllaa", sum := "567c00579d0b3588d1b74fa77113cc5af07cb62eb4257c8989017dac4bbe27e3", func := "chatelaine/chatelainelaw39.TwinNames", spec := "twinNames", plainKeys := false, apart := false, narrowed := true }
def TwinNamesUptoSaid : Prop := twinNamesUptoRow.holds Try.pinned (OpenSpec.upto twinNamesSpec)

/-- 'chatelainelaw20.PathWays', WHERE WHAT IT READS IS OF BULK AT MOST 1048576: true; the input reads as it did. -/
def pathWaysUptoRow : OpenClaim := { program := "ytdahdlidpplllaa", sum := "567c00579d0b3588d1b74fa77113cc5af07cb62eb4257c8989017dac4bbe27e3", func := "chatelaine/chatelainelaw20.PathWays", spec := "pathWays", unfollowed := true, recurses := true, plainKeys := false, apart := false, narrowed := true }
def PathWaysUptoSaid : Prop := pathWaysUptoRow.holds Try.pinned (OpenSpec.upto pathWaysSpec)

/-- 'chatelainelaw20.PathOnce', WHERE WHAT IT READS IS OF BULK AT MOST 1048576: true; the input reads as it did. -/
def pathOnceUptoRow : OpenClaim := { program := "ytdahdlidpplllaa", sum := "567c00579d0b3588d1b74fa77113cc5af07cb62eb4257c8989017dac4bbe27e3", func := "chatelaine/chatelainelaw20.PathOnce", spec := "pathOnce", unfollowed := true, recurses := true, plainKeys := false, apart := false, narrowed := true }
def PathOnceUptoSaid : Prop := pathOnceUptoRow.holds Try.pinned (OpenSpec.upto pathOnceSpec)

/-- 'chatelainelaw36.TermPuts', WHERE WHAT IT READS IS OF BULK AT MOST 1048576: true; the input reads as it did. -/
def termPutsUptoRow : OpenClaim := { program := "ytdahdlidpplllaa", sum := "567c00579d0b3588d1b74fa77113cc5af07cb62eb4257c8989017dac4bbe27e3", func := "chatelaine/chatelainelaw36.TermPuts", spec := "termPuts", recurses := true, plainKeys := false, apart := false, narrowed := true }
def TermPutsUptoSaid : Prop := termPutsUptoRow.holds Try.pinned (OpenSpec.upto termPutsSpec)

/-- 'chatelainelaw36.TermOnce', WHERE WHAT IT READS IS OF BULK AT MOST 1048576: true; the input reads as it did. -/
def termOnceUptoRow : OpenClaim := { program := "ytdahdlidpplllaa", sum := "567c00579d0b3588d1b74fa77113cc5af07cb62eb4257c8989017dac4bbe27e3", func := "chatelaine/chatelainelaw36.TermOnce", spec := "termOnce", plainKeys := false, apart := false, narrowed := true }
def TermOnceUptoSaid : Prop := termOnceUptoRow.holds Try.pinned (OpenSpec.upto termOnceSpec)

end Rows
end Go.Proofs.Ytdahdlidpplllaa
