/-
  No cell of these rows narrows 'for every input' (looked for: loops, veiled, ifaces, maps, wideKeys, modest, calm, conditions, laid).
  DERIVED. THE GIVEN ROWS OF THIS SEAT. 4 by the template 'for every input the law returns true; each argument reads behind the call as it read before'; 0 by the template 'total and deterministic' (their statements: YtohgmggdfmjgnaaTotals.lean).
  GIVEN WITH THE SEED: the statements are not yours to turn. If you find one false, say at which input.
  Laid BY PROGRAM, IN A SANDBOX (cutbox-rows.mjs): the forced cells as the released guide's own fill.sh prints them over the translation 2e49b690da1ee55e… (all of the seat's roots in one cut). By AI agents, Wed Nov 11 2026. No macro, syntax, notation, axiom, sorry.
-/
import Derived.Test.YtohgmggdfmjgnaaChecked
import GoSem.Claim
import GoSem.ClaimJoined
import GoSem.ClaimMapViews
import Derived.JoinedTies
import Derived.KernelRfl
namespace Go.Proofs.Ytohgmggdfmjgnaa
/- THE CELL 'sum', in the pinned program and in every row, IS THE sha256 OF THE DUMP (.gsa) THAT YtohgmggdfmjgnaaProg.lean LOADS. Nothing in Lean hashes anything: it is a label: what it is worth is what the hold of that sum in a sandbox is worth. -/
noncomputable def Try.pinned : Pinned := { name := "ytohgmggdfmjgnaa", sum := "2e49b690da1ee55e073a39266fd32731e92e9b1afeb2181c446be6197b84ab25", checked := Try.checked }
namespace Rows
def none {H : Type} : Left H := { results := [], args := [] }

/-- 'chatelainelaw21.KeytreeMakes': WHATEVER THE INPUT: true; the input reads as it did. -/
def keytreeMakesSpec : ChangeSpec := { name := "keytreeMakes", fn := fun _ => fun
  | [d1, d2, d3] => { results := [.lit (.bool true)], args := [d1, d2, d3] }
  | _ => none }
def keytreeMakesRow : OpenClaim := { program := "ytohgmggdfmjgnaa", sum := "2e49b690da1ee55e073a39266fd32731e92e9b1afeb2181c446be6197b84ab25", func := "chatelaine/chatelainelaw21.KeytreeMakes", spec := "keytreeMakes", inPlace := ["internal/bytealg.IndexByteString"], unfollowed := true, recurses := true, apart := false }
def KeytreeMakesSaid : Prop := keytreeMakesRow.holds Try.pinned (OpenSpec.ofChange keytreeMakesSpec)

/-- ITS FALSE NEIGHBOUR: 'it returns false'. Refute it at one input. -/
def keytreeMakesWrong : ChangeSpec := { name := "keytreeMakes", fn := fun _ => fun
  | [d1, d2, d3] => { results := [.lit (.bool false)], args := [d1, d2, d3] }
  | _ => none }
def KeytreeMakesWrongFalsely : Prop := keytreeMakesRow.holds Try.pinned (OpenSpec.ofChange keytreeMakesWrong)

/-- 'chatelainelaw21.KeytreeTold': WHATEVER THE INPUT: true; the input reads as it did. -/
def keytreeToldSpec : ChangeSpec := { name := "keytreeTold", fn := fun _ => fun
  | [d1, d2, d3] => { results := [.lit (.bool true)], args := [d1, d2, d3] }
  | _ => none }
def keytreeToldRow : OpenClaim := { program := "ytohgmggdfmjgnaa", sum := "2e49b690da1ee55e073a39266fd32731e92e9b1afeb2181c446be6197b84ab25", func := "chatelaine/chatelainelaw21.KeytreeTold", spec := "keytreeTold", inPlace := ["internal/bytealg.IndexByteString"], unfollowed := true, recurses := true, apart := false }
def KeytreeToldSaid : Prop := keytreeToldRow.holds Try.pinned (OpenSpec.ofChange keytreeToldSpec)

/-- ITS FALSE NEIGHBOUR: 'it returns false'. Refute it at one input. -/
def keytreeToldWrong : ChangeSpec := { name := "keytreeTold", fn := fun _ => fun
  | [d1, d2, d3] => { results := [.lit (.bool false)], args := [d1, d2, d3] }
  | _ => none }
def KeytreeToldWrongFalsely : Prop := keytreeToldRow.holds Try.pinned (OpenSpec.ofChange keytreeToldWrong)

/-- 'chatelainelaw21.KeytreeResizes': WHATEVER THE INPUT: true; the input reads as it did. -/
def keytreeResizesSpec : ChangeSpec := { name := "keytreeResizes", fn := fun _ => fun
  | [d] => { results := [.lit (.bool true)], args := [d] }
  | _ => none }
def keytreeResizesRow : OpenClaim := { program := "ytohgmggdfmjgnaa", sum := "2e49b690da1ee55e073a39266fd32731e92e9b1afeb2181c446be6197b84ab25", func := "chatelaine/chatelainelaw21.KeytreeResizes", spec := "keytreeResizes", inPlace := ["internal/bytealg.IndexByteString"], unfollowed := true, recurses := true, apart := false }
def KeytreeResizesSaid : Prop := keytreeResizesRow.holds Try.pinned (OpenSpec.ofChange keytreeResizesSpec)

/-- ITS FALSE NEIGHBOUR: 'it returns false'. Refute it at one input. -/
def keytreeResizesWrong : ChangeSpec := { name := "keytreeResizes", fn := fun _ => fun
  | [d] => { results := [.lit (.bool false)], args := [d] }
  | _ => none }
def KeytreeResizesWrongFalsely : Prop := keytreeResizesRow.holds Try.pinned (OpenSpec.ofChange keytreeResizesWrong)

/-- 'chatelainelaw21.KeytreePunctures': WHATEVER THE INPUT: true; the input reads as it did. -/
def keytreePuncturesSpec : ChangeSpec := { name := "keytreePunctures", fn := fun _ => fun
  | [d] => { results := [.lit (.bool true)], args := [d] }
  | _ => none }
def keytreePuncturesRow : OpenClaim := { program := "ytohgmggdfmjgnaa", sum := "2e49b690da1ee55e073a39266fd32731e92e9b1afeb2181c446be6197b84ab25", func := "chatelaine/chatelainelaw21.KeytreePunctures", spec := "keytreePunctures", inPlace := ["internal/bytealg.IndexByteString"], unfollowed := true, recurses := true, apart := false }
def KeytreePuncturesSaid : Prop := keytreePuncturesRow.holds Try.pinned (OpenSpec.ofChange keytreePuncturesSpec)

/-- ITS FALSE NEIGHBOUR: 'it returns false'. Refute it at one input. -/
def keytreePuncturesWrong : ChangeSpec := { name := "keytreePunctures", fn := fun _ => fun
  | [d] => { results := [.lit (.bool false)], args := [d] }
  | _ => none }
def KeytreePuncturesWrongFalsely : Prop := keytreePuncturesRow.holds Try.pinned (OpenSpec.ofChange keytreePuncturesWrong)

/- THE SECOND FORM. 'bulk': how many values and letters a reading holds, each counted each time it is reached (what is shared counts as often as it is met; a slice's spare places count too). A statement '..UptoSaid' is the law's where the arguments, and the package variables that the reading takes, are together of bulk at most 1048576: NARROWER than '..Said'. Prove '..Said' where nothing that the law and all that it calls make is longer than what came in: it says more and counts as full. Else prove '..UptoSaid'. A law counts once. -/
mutual
def uptoBulk {H : Type} : DataW H → Nat
  | .lit (.string bytes) => bytes.length + 1
  | .lit _ => 1
  | .nil => 1
  | .ptr d => uptoBulk d + 1
  | .slice elems spare => uptoBulkAll elems + uptoBulkAll spare + 1
  | .agg parts => uptoBulkAll parts + 1
  | .iface _ d => uptoBulk d + 1
  | .map entries => uptoBulkEntries entries + 1
  | .held _ => 1
def uptoBulkAll {H : Type} : List (DataW H) → Nat
  | [] => 0
  | d :: r => uptoBulk d + uptoBulkAll r
def uptoBulkEntries {H : Type} : List (Lit × DataW H) → Nat
  | [] => 0
  | x :: r => uptoBulkEntry x + uptoBulkEntries r
def uptoBulkEntry {H : Type} : Lit × DataW H → Nat
  | (.string bytes, d) => bytes.length + uptoBulk d + 1
  | (_, d) => uptoBulk d + 1
 end
def uptoSmall : (H : Type) → List (DataW H) → Bool := fun _ ds => decide (uptoBulkAll ds ≤ 1048576)
def OpenSpec.upto (s : _root_.Go.ChangeSpec) : _root_.Go.OpenSpec := { _root_.Go.OpenSpec.ofChange s with cond := some uptoSmall }

/-- 'chatelainelaw21.KeytreeMakes', WHERE WHAT IT READS IS OF BULK AT MOST 1048576: true; the input reads as it did. -/
def keytreeMakesUptoRow : OpenClaim := { program := "ytohgmggdfmjgnaa", sum := "2e49b690da1ee55e073a39266fd32731e92e9b1afeb2181c446be6197b84ab25", func := "chatelaine/chatelainelaw21.KeytreeMakes", spec := "keytreeMakes", inPlace := ["internal/bytealg.IndexByteString"], unfollowed := true, recurses := true, apart := false, narrowed := true }
def KeytreeMakesUptoSaid : Prop := keytreeMakesUptoRow.holds Try.pinned (OpenSpec.upto keytreeMakesSpec)

/-- 'chatelainelaw21.KeytreeTold', WHERE WHAT IT READS IS OF BULK AT MOST 1048576: true; the input reads as it did. -/
def keytreeToldUptoRow : OpenClaim := { program := "ytohgmggdfmjgnaa", sum := "2e49b690da1ee55e073a39266fd32731e92e9b1afeb2181c446be6197b84ab25", func := "chatelaine/chatelainelaw21.KeytreeTold", spec := "keytreeTold", inPlace := ["internal/bytealg.IndexByteString"], unfollowed := true, recurses := true, apart := false, narrowed := true }
def KeytreeToldUptoSaid : Prop := keytreeToldUptoRow.holds Try.pinned (OpenSpec.upto keytreeToldSpec)

/-- 'chatelainelaw21.KeytreeResizes', WHERE WHAT IT READS IS OF BULK AT MOST 1048576: true; the input reads as it did. -/
def keytreeResizesUptoRow : OpenClaim := { program := "ytohgmggdfmjgnaa", sum := "2e49b690da1ee55e073a39266fd32731e92e9b1afeb2181c446be6197b84ab25", func := "chatelaine/chatelainelaw21.KeytreeResizes", spec := "keytreeResizes", inPlace := ["internal/bytealg.IndexByteString"], unfollowed := true, recurses := true, apart := false, narrowed := true }
def KeytreeResizesUptoSaid : Prop := keytreeResizesUptoRow.holds Try.pinned (OpenSpec.upto keytreeResizesSpec)

/-- 'chatelainelaw21.KeytreePunctures', WHERE WHAT IT READS IS OF BULK AT MOST 1048576: true; the input reads as it did. -/
def keytreePuncturesUptoRow : OpenClaim := { program := "ytohgmggdfmjgnaa", sum := "2e49b690da1ee55e073a39266fd32731e92e9b1afeb2181c446be6197b84ab25", func := "chatelaine/chatelainelaw21.KeytreePunctures", spec := "keytreePunctures", inPlace := ["internal/bytealg.IndexByteString"], unfollowed := true, recurses := true, apart := false, narrowed := true }
def KeytreePuncturesUptoSaid : Prop := keytreePuncturesUptoRow.holds Try.pinned (OpenSpec.upto keytreePuncturesSpec)

end Rows
end Go.Proofs.Ytohgmggdfmjgnaa
