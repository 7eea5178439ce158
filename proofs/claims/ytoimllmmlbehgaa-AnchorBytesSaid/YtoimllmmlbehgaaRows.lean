/-
  No cell of these rows narrows 'for every input' (looked for: loops, veiled, ifaces, maps, wideKeys, modest, calm, conditions, laid).
  DERIVED. THE GIVEN ROWS OF THIS SEAT. 10 by the template 'for every input the law returns true; each argument reads behind the call as it read before'; 0 by the template 'total and deterministic' (their statements: YtoimllmmlbehgaaTotals.lean).
  GIVEN WITH THE SEED: the statements are not yours to turn. If you find one false, say at which input.
  Laid BY PROGRAM, IN A SANDBOX (cutbox-rows.mjs): the forced cells as the released guide's own fill.sh prints them over the translation b1933f968dfee98c… (all of the seat's roots in one cut). By AI agents, Wed Nov 11 2026. No macro, syntax, notation, axiom, sorry.
-/
import Derived.Test.YtoimllmmlbehgaaChecked
import GoSem.Claim
import GoSem.ClaimJoined
import GoSem.ClaimMapViews
import Derived.JoinedTies
import Derived.KernelRfl
namespace Go.Proofs.Ytoimllmmlbehgaa
/- THE CELL 'sum', in the pinned program and in every row, IS THE sha256 OF THE DUMP (.gsa) THAT YtoimllmmlbehgaaProg.lean LOADS. Nothing in Lean hashes anything: it is a label: what it is worth is what the hold of that sum in a sandbox is worth. -/
noncomputable def Try.pinned : Pinned := { name := "ytoimllmmlbehgaa", sum := "b1933f968dfee98c5fafc49922410307248af340152a75eba977099cdcd5f62a", checked := Try.checked }
namespace Rows
def none {H : Type} : Left H := { results := [], args := [] }

/-- 'chatelainelaw04.AesBlocks': WHATEVER THE INPUT: true; the input reads as it did. -/
def aesBlocksSpec : ChangeSpec := { name := "aesBlocks", fn := fun _ => fun
  | [d1, d2] => { results := [.lit (.bool true)], args := [d1, d2] }
  | _ => none }
def aesBlocksRow : OpenClaim := { program := "ytoimllmmlbehgaa", sum := "b1933f968dfee98c5fafc49922410307248af340152a75eba977099cdcd5f62a", func := "chatelaine/chatelainelaw04.AesBlocks", spec := "aesBlocks", apart := false }
def AesBlocksSaid : Prop := aesBlocksRow.holds Try.pinned (OpenSpec.ofChange aesBlocksSpec)

/-- ITS FALSE NEIGHBOUR: 'it returns false'. Refute it at one input. -/
def aesBlocksWrong : ChangeSpec := { name := "aesBlocks", fn := fun _ => fun
  | [d1, d2] => { results := [.lit (.bool false)], args := [d1, d2] }
  | _ => none }
def AesBlocksWrongFalsely : Prop := aesBlocksRow.holds Try.pinned (OpenSpec.ofChange aesBlocksWrong)

/-- 'chatelainelaw04.AesBack': WHATEVER THE INPUT: true; the input reads as it did. -/
def aesBackSpec : ChangeSpec := { name := "aesBack", fn := fun _ => fun
  | [d1, d2, d3] => { results := [.lit (.bool true)], args := [d1, d2, d3] }
  | _ => none }
def aesBackRow : OpenClaim := { program := "ytoimllmmlbehgaa", sum := "b1933f968dfee98c5fafc49922410307248af340152a75eba977099cdcd5f62a", func := "chatelaine/chatelainelaw04.AesBack", spec := "aesBack", apart := false }
def AesBackSaid : Prop := aesBackRow.holds Try.pinned (OpenSpec.ofChange aesBackSpec)

/-- ITS FALSE NEIGHBOUR: 'it returns false'. Refute it at one input. -/
def aesBackWrong : ChangeSpec := { name := "aesBack", fn := fun _ => fun
  | [d1, d2, d3] => { results := [.lit (.bool false)], args := [d1, d2, d3] }
  | _ => none }
def AesBackWrongFalsely : Prop := aesBackRow.holds Try.pinned (OpenSpec.ofChange aesBackWrong)

/-- 'chatelainelaw04.AesKeys': WHATEVER THE INPUT: true; the input reads as it did. -/
def aesKeysSpec : ChangeSpec := { name := "aesKeys", fn := fun _ => fun
  | [d] => { results := [.lit (.bool true)], args := [d] }
  | _ => none }
def aesKeysRow : OpenClaim := { program := "ytoimllmmlbehgaa", sum := "b1933f968dfee98c5fafc49922410307248af340152a75eba977099cdcd5f62a", func := "chatelaine/chatelainelaw04.AesKeys", spec := "aesKeys", apart := false }
def AesKeysSaid : Prop := aesKeysRow.holds Try.pinned (OpenSpec.ofChange aesKeysSpec)

/-- ITS FALSE NEIGHBOUR: 'it returns false'. Refute it at one input. -/
def aesKeysWrong : ChangeSpec := { name := "aesKeys", fn := fun _ => fun
  | [d] => { results := [.lit (.bool false)], args := [d] }
  | _ => none }
def AesKeysWrongFalsely : Prop := aesKeysRow.holds Try.pinned (OpenSpec.ofChange aesKeysWrong)

/-- 'chatelainelaw09.WrapWraps': WHATEVER THE INPUT: true; the input reads as it did. -/
def wrapWrapsSpec : ChangeSpec := { name := "wrapWraps", fn := fun _ => fun
  | [d1, d2, d3] => { results := [.lit (.bool true)], args := [d1, d2, d3] }
  | _ => none }
def wrapWrapsRow : OpenClaim := { program := "ytoimllmmlbehgaa", sum := "b1933f968dfee98c5fafc49922410307248af340152a75eba977099cdcd5f62a", func := "chatelaine/chatelainelaw09.WrapWraps", spec := "wrapWraps", apart := false }
def WrapWrapsSaid : Prop := wrapWrapsRow.holds Try.pinned (OpenSpec.ofChange wrapWrapsSpec)

/-- ITS FALSE NEIGHBOUR: 'it returns false'. Refute it at one input. -/
def wrapWrapsWrong : ChangeSpec := { name := "wrapWraps", fn := fun _ => fun
  | [d1, d2, d3] => { results := [.lit (.bool false)], args := [d1, d2, d3] }
  | _ => none }
def WrapWrapsWrongFalsely : Prop := wrapWrapsRow.holds Try.pinned (OpenSpec.ofChange wrapWrapsWrong)

/-- 'chatelainelaw09.WrapUnwraps': WHATEVER THE INPUT: true; the input reads as it did. -/
def wrapUnwrapsSpec : ChangeSpec := { name := "wrapUnwraps", fn := fun _ => fun
  | [d1, d2] => { results := [.lit (.bool true)], args := [d1, d2] }
  | _ => none }
def wrapUnwrapsRow : OpenClaim := { program := "ytoimllmmlbehgaa", sum := "b1933f968dfee98c5fafc49922410307248af340152a75eba977099cdcd5f62a", func := "chatelaine/chatelainelaw09.WrapUnwraps", spec := "wrapUnwraps", apart := false }
def WrapUnwrapsSaid : Prop := wrapUnwrapsRow.holds Try.pinned (OpenSpec.ofChange wrapUnwrapsSpec)

/-- ITS FALSE NEIGHBOUR: 'it returns false'. Refute it at one input. -/
def wrapUnwrapsWrong : ChangeSpec := { name := "wrapUnwraps", fn := fun _ => fun
  | [d1, d2] => { results := [.lit (.bool false)], args := [d1, d2] }
  | _ => none }
def WrapUnwrapsWrongFalsely : Prop := wrapUnwrapsRow.holds Try.pinned (OpenSpec.ofChange wrapUnwrapsWrong)

/-- 'chatelainelaw09.WrapBack': WHATEVER THE INPUT: true; the input reads as it did. -/
def wrapBackSpec : ChangeSpec := { name := "wrapBack", fn := fun _ => fun
  | [d1, d2, d3] => { results := [.lit (.bool true)], args := [d1, d2, d3] }
  | _ => none }
def wrapBackRow : OpenClaim := { program := "ytoimllmmlbehgaa", sum := "b1933f968dfee98c5fafc49922410307248af340152a75eba977099cdcd5f62a", func := "chatelaine/chatelainelaw09.WrapBack", spec := "wrapBack", apart := false }
def WrapBackSaid : Prop := wrapBackRow.holds Try.pinned (OpenSpec.ofChange wrapBackSpec)

/-- ITS FALSE NEIGHBOUR: 'it returns false'. Refute it at one input. -/
def wrapBackWrong : ChangeSpec := { name := "wrapBack", fn := fun _ => fun
  | [d1, d2, d3] => { results := [.lit (.bool false)], args := [d1, d2, d3] }
  | _ => none }
def WrapBackWrongFalsely : Prop := wrapBackRow.holds Try.pinned (OpenSpec.ofChange wrapBackWrong)

/-- 'chatelainelaw10.XtsApart': WHATEVER THE INPUT: true; the input reads as it did. -/
def xtsApartSpec : ChangeSpec := { name := "xtsApart", fn := fun _ => fun
  | [d1, d2, d3] => { results := [.lit (.bool true)], args := [d1, d2, d3] }
  | _ => none }
def xtsApartRow : OpenClaim := { program := "ytoimllmmlbehgaa", sum := "b1933f968dfee98c5fafc49922410307248af340152a75eba977099cdcd5f62a", func := "chatelaine/chatelainelaw10.XtsApart", spec := "xtsApart", unfollowed := true, recurses := true, apart := false }
def XtsApartSaid : Prop := xtsApartRow.holds Try.pinned (OpenSpec.ofChange xtsApartSpec)

/-- ITS FALSE NEIGHBOUR: 'it returns false'. Refute it at one input. -/
def xtsApartWrong : ChangeSpec := { name := "xtsApart", fn := fun _ => fun
  | [d1, d2, d3] => { results := [.lit (.bool false)], args := [d1, d2, d3] }
  | _ => none }
def XtsApartWrongFalsely : Prop := xtsApartRow.holds Try.pinned (OpenSpec.ofChange xtsApartWrong)

/-- 'chatelainelaw10.XtsTweaks': WHATEVER THE INPUT: true; the input reads as it did. -/
def xtsTweaksSpec : ChangeSpec := { name := "xtsTweaks", fn := fun _ => fun
  | [d1, d2, d3] => { results := [.lit (.bool true)], args := [d1, d2, d3] }
  | _ => none }
def xtsTweaksRow : OpenClaim := { program := "ytoimllmmlbehgaa", sum := "b1933f968dfee98c5fafc49922410307248af340152a75eba977099cdcd5f62a", func := "chatelaine/chatelainelaw10.XtsTweaks", spec := "xtsTweaks", unfollowed := true, recurses := true, apart := false }
def XtsTweaksSaid : Prop := xtsTweaksRow.holds Try.pinned (OpenSpec.ofChange xtsTweaksSpec)

/-- ITS FALSE NEIGHBOUR: 'it returns false'. Refute it at one input. -/
def xtsTweaksWrong : ChangeSpec := { name := "xtsTweaks", fn := fun _ => fun
  | [d1, d2, d3] => { results := [.lit (.bool false)], args := [d1, d2, d3] }
  | _ => none }
def XtsTweaksWrongFalsely : Prop := xtsTweaksRow.holds Try.pinned (OpenSpec.ofChange xtsTweaksWrong)

/-- 'chatelainelaw10.XtsSectors': WHATEVER THE INPUT: true; the input reads as it did. -/
def xtsSectorsSpec : ChangeSpec := { name := "xtsSectors", fn := fun _ => fun
  | [d1, d2, d3] => { results := [.lit (.bool true)], args := [d1, d2, d3] }
  | _ => none }
def xtsSectorsRow : OpenClaim := { program := "ytoimllmmlbehgaa", sum := "b1933f968dfee98c5fafc49922410307248af340152a75eba977099cdcd5f62a", func := "chatelaine/chatelainelaw10.XtsSectors", spec := "xtsSectors", unfollowed := true, recurses := true, apart := false }
def XtsSectorsSaid : Prop := xtsSectorsRow.holds Try.pinned (OpenSpec.ofChange xtsSectorsSpec)

/-- ITS FALSE NEIGHBOUR: 'it returns false'. Refute it at one input. -/
def xtsSectorsWrong : ChangeSpec := { name := "xtsSectors", fn := fun _ => fun
  | [d1, d2, d3] => { results := [.lit (.bool false)], args := [d1, d2, d3] }
  | _ => none }
def XtsSectorsWrongFalsely : Prop := xtsSectorsRow.holds Try.pinned (OpenSpec.ofChange xtsSectorsWrong)

/-- 'chatelainelaw16.AnchorBytes': WHATEVER THE INPUT: true; the input reads as it did. -/
def anchorBytesSpec : ChangeSpec := { name := "anchorBytes", fn := fun _ => fun
  | [d] => { results := [.lit (.bool true)], args := [d] }
  | _ => none }
def anchorBytesRow : OpenClaim := { program := "ytoimllmmlbehgaa", sum := "b1933f968dfee98c5fafc49922410307248af340152a75eba977099cdcd5f62a", func := "chatelaine/chatelainelaw16.AnchorBytes", spec := "anchorBytes", apart := false }
def AnchorBytesSaid : Prop := anchorBytesRow.holds Try.pinned (OpenSpec.ofChange anchorBytesSpec)

/-- ITS FALSE NEIGHBOUR: 'it returns false'. Refute it at one input. -/
def anchorBytesWrong : ChangeSpec := { name := "anchorBytes", fn := fun _ => fun
  | [d] => { results := [.lit (.bool false)], args := [d] }
  | _ => none }
def AnchorBytesWrongFalsely : Prop := anchorBytesRow.holds Try.pinned (OpenSpec.ofChange anchorBytesWrong)

/- THE SECOND FORM. 'bulk': how many values and letters a reading holds, each counted each time it is reached (what is shared counts as often as it is met; a slice's spare places count too). A statement '..UptoSaid' is the law's where the arguments, and the package variables that the reading takes, are together of bulk at most 1048576: NARROWER than '..Said'. Prove '..Said' where nothing that the law and all that it calls make is longer than what came in: it says more and counts as full. Else prove '..UptoSaid'. A law counts once. -/
mutual
def uptoBulk {H : Type} : DataW H → Nat
  | .lit (.string bytes) => bytes.length + 1
  | .lit _ => 1
  | .nil => 1
  | .ptr d => uptoBulk d + 1
  | .slice elems spare => uptoBulkAll elems + uptoBulkAll spare + 1
  | .agg parts => uptoBulkAll parts + 1
  | .iface _ d => uptoBulk d + 1
  | .map entries => uptoBulkEntries entries + 1
  | .held _ => 1
def uptoBulkAll {H : Type} : List (DataW H) → Nat
  | [] => 0
  | d :: r => uptoBulk d + uptoBulkAll r
def uptoBulkEntries {H : Type} : List (Lit × DataW H) → Nat
  | [] => 0
  | x :: r => uptoBulkEntry x + uptoBulkEntries r
def uptoBulkEntry {H : Type} : Lit × DataW H → Nat
  | (.string bytes, d) => bytes.length + uptoBulk d + 1
  | (_, d) => uptoBulk d + 1
 end
def uptoSmall : (H : Type) → List (DataW H) → Bool := fun _ ds => decide (uptoBulkAll ds ≤ 1048576)
def OpenSpec.upto (s : _root_.Go.ChangeSpec) : _root_.Go.OpenSpec := { _root_.Go.OpenSpec.ofChange s with cond := some uptoSmall }

/-- 'chatelainelaw04.AesBlocks', WHERE WHAT IT READS IS OF BULK AT MOST 1048576: true; the input reads as it did. -/
def aesBlocksUptoRow : OpenClaim := { program := "ytoimllmmlbehgaa", sum := "b1933f968dfee98c5fafc49922410307248af340152a75eba977099cdcd5f62a", func := "chatelaine/chatelainelaw04.AesBlocks", spec := "aesBlocks", apart := false, narrowed := true }
def AesBlocksUptoSaid : Prop := aesBlocksUptoRow.holds Try.pinned (OpenSpec.upto aesBlocksSpec)

/-- 'chatelainelaw04.AesBack', WHERE WHAT IT READS IS OF BULK AT MOST 1048576: true; the input reads as it did. -/
def aesBackUptoRow : OpenClaim := { program := "ytoimllmmlbehgaa", sum := "b1933f968dfee98c5fafc49922410307248af340152a75eba977099cdcd5f62a", func := "chatelaine/chatelainelaw04.AesBack", spec := "aesBack", apart := false, narrowed := true }
def AesBackUptoSaid : Prop := aesBackUptoRow.holds Try.pinned (OpenSpec.upto aesBackSpec)

/-- 'chatelainelaw04.AesKeys', WHERE WHAT IT READS IS OF BULK AT MOST 1048576: true; the input reads as it did. -/
def aesKeysUptoRow : OpenClaim := { program := "ytoimllmmlbehgaa", sum := "b1933f968dfee98c5fafc49922410307248af340152a75eba977099cdcd5f62a", func := "chatelaine/chatelainelaw04.AesKeys", spec := "aesKeys", apart := false, narrowed := true }
def AesKeysUptoSaid : Prop := aesKeysUptoRow.holds Try.pinned (OpenSpec.upto aesKeysSpec)

/-- 'chatelainelaw09.WrapWraps', WHERE WHAT IT READS IS OF BULK AT MOST 1048576: true; the input reads as it did. -/
def wrapWrapsUptoRow : OpenClaim := { program := "ytoimllmmlbehgaa", sum := "b1933f968dfee98c5fafc49922410307248af340152a75eba977099cdcd5f62a", func := "chatelaine/chatelainelaw09.WrapWraps", spec := "wrapWraps", apart := false, narrowed := true }
def WrapWrapsUptoSaid : Prop := wrapWrapsUptoRow.holds Try.pinned (OpenSpec.upto wrapWrapsSpec)

/-- 'chatelainelaw09.WrapUnwraps', WHERE WHAT IT READS IS OF BULK AT MOST 1048576: true; the input reads as it did. -/
def wrapUnwrapsUptoRow : OpenClaim := { program := "ytoimllmmlbehgaa", sum := "b1933f968dfee98c5fafc49922410307248af340152a75eba977099cdcd5f62a", func := "chatelaine/chatelainelaw09.WrapUnwraps", spec := "wrapUnwraps", apart := false, narrowed := true }
def WrapUnwrapsUptoSaid : Prop := wrapUnwrapsUptoRow.holds Try.pinned (OpenSpec.upto wrapUnwrapsSpec)

/-- 'chatelainelaw09.WrapBack', WHERE WHAT IT READS IS OF BULK AT MOST 1048576: true; the input reads as it did. -/
def wrapBackUptoRow : OpenClaim := { program := "ytoimllmmlbehgaa", sum := "b1933f968dfee98c5fafc49922410307248af340152a75eba977099cdcd5f62a", func := "chatelaine/chatelainelaw09.WrapBack", spec := "wrapBack", apart := false, narrowed := true }
def WrapBackUptoSaid : Prop := wrapBackUptoRow.holds Try.pinned (OpenSpec.upto wrapBackSpec)

/-- 'chatelainelaw10.XtsApart', WHERE WHAT IT READS IS OF BULK AT MOST 1048576: true; the input reads as it did. -/
def xtsApartUptoRow : OpenClaim := { program := "ytoimllmmlbehgaa", sum := "b1933f968dfee98c5fafc49922410307248af340152a75eba977099cdcd5f62a", func := "chatelaine/chatelainelaw10.XtsApart", spec := "xtsApart", unfollowed := true, recurses := true, apart := false, narrowed := true }
def XtsApartUptoSaid : Prop := xtsApartUptoRow.holds Try.pinned (OpenSpec.upto xtsApartSpec)

/-- 'chatelainelaw10.XtsTweaks', WHERE WHAT IT READS IS OF BULK AT MOST 1048576: true; the input reads as it did. -/
def xtsTweaksUptoRow : OpenClaim := { program := "ytoimllmmlbehgaa", sum := "b1933f968dfee98c5fafc49922410307248af340152a75eba977099cdcd5f62a", func := "chatelaine/chatelainelaw10.XtsTweaks", spec := "xtsTweaks", unfollowed := true, recurses := true, apart := false, narrowed := true }
def XtsTweaksUptoSaid : Prop := xtsTweaksUptoRow.holds Try.pinned (OpenSpec.upto xtsTweaksSpec)

/-- 'chatelainelaw10.XtsSectors', WHERE WHAT IT READS IS OF BULK AT MOST 1048576: true; the input reads as it did. -/
def xtsSectorsUptoRow : OpenClaim := { program := "ytoimllmmlbehgaa", sum := "b1933f968dfee98c5fafc49922410307248af340152a75eba977099cdcd5f62a", func := "chatelaine/chatelainelaw10.XtsSectors", spec := "xtsSectors", unfollowed := true, recurses := true, apart := false, narrowed := true }
def XtsSectorsUptoSaid : Prop := xtsSectorsUptoRow.holds Try.pinned (OpenSpec.upto xtsSectorsSpec)

/-- 'chatelainelaw16.AnchorBytes', WHERE WHAT IT READS IS OF BULK AT MOST 1048576: true; the input reads as it did. -/
def anchorBytesUptoRow : OpenClaim := { program := "ytoimllmmlbehgaa", sum := "b1933f968dfee98c5fafc49922410307248af340152a75eba977099cdcd5f62a", func := "chatelaine/chatelainelaw16.AnchorBytes", spec := "anchorBytes", apart := false, narrowed := true }
def AnchorBytesUptoSaid : Prop := anchorBytesUptoRow.holds Try.pinned (OpenSpec.upto anchorBytesSpec)

end Rows
end Go.Proofs.Ytoimllmmlbehgaa
