/-
  No cell of these rows narrows 'for every input' (looked for: loops, veiled, ifaces, maps, wideKeys, modest, calm, conditions, laid).
  DERIVED. THE GIVEN ROWS OF THIS SEAT. 11 by the template 'for every input the law returns true; each argument reads behind the call as it read before'; 0 by the template 'total and deterministic' (their statements: YtlgcfnbhnpnkiaaTotals.lean).
  GIVEN WITH THE SEED: the statements are not yours to turn. If you find one false, say at which input.
  Laid BY PROGRAM, IN A SANDBOX (cutbox-rows.mjs): the forced cells as the released guide's own fill.sh prints them over the translation f2007a4b8b3f5f5d… (all of the seat's roots in one cut). By AI agents, Wed Nov 11 2026. No macro, syntax, notation, axiom, sorry.
-/
import Derived.Test.YtlgcfnbhnpnkiaaChecked
import GoSem.Claim
import GoSem.ClaimJoined
import GoSem.ClaimMapViews
import Derived.JoinedTies
import Derived.KernelRfl
namespace Go.Proofs.Ytlgcfnbhnpnkiaa
/- THE CELL 'sum', in the pinned program and in every row, IS THE sha256 OF THE DUMP (.gsa) THAT YtlgcfnbhnpnkiaaProg.lean LOADS. Nothing in Lean hashes anything: it is a label: what it is worth is what the hold of that sum in a sandbox is worth. -/
noncomputable def Try.pinned : Pinned := { name := "ytlgcfnbhnpnkiaa", sum := "f2007a4b8b3f5f5d26afce05d9c95f33ef5041d4aef2cbbf464eb65dde0fc098", checked := Try.checked }
namespace Rows
def none {H : Type} : Left H := { results := [], args := [] }

/-- 'chatelainelaw39.TwinSame': WHATEVER THE INPUT: true; the input reads as it did. -/
def twinSameSpec : ChangeSpec := { name := "twinSame", fn := fun _ => fun
  | [d1, d2] => { results := [.lit (.bool true)], args := [d1, d2] }
  | _ => none }
def twinSameRow : OpenClaim := { program := "ytlgcfnbhnpnkiaa", sum := "f2007a4b8b3f5f5d26afce05d9c95f33ef5041d4aef2cbbf464eb65dde0fc098", func := "chatelaine/chatelainelaw39.TwinSame", spec := "twinSame", plainKeys := false, apart := false }
def TwinSameSaid : Prop := twinSameRow.holds Try.pinned (OpenSpec.ofChange twinSameSpec)

/-- ITS FALSE NEIGHBOUR: 'it returns false'. Refute it at one input. -/
def twinSameWrong : ChangeSpec := { name := "twinSame", fn := fun _ => fun
  | [d1, d2] => { results := [.lit (.bool false)], args := [d1, d2] }
  | _ => none }
def TwinSameWrongFalsely : Prop := twinSameRow.holds Try.pinned (OpenSpec.ofChange twinSameWrong)

/-- 'chatelainelaw23.MerkleApart': WHATEVER THE INPUT: true; the input reads as it did. -/
def merkleApartSpec : ChangeSpec := { name := "merkleApart", fn := fun _ => fun
  | [d1, d2] => { results := [.lit (.bool true)], args := [d1, d2] }
  | _ => none }
def merkleApartRow : OpenClaim := { program := "ytlgcfnbhnpnkiaa", sum := "f2007a4b8b3f5f5d26afce05d9c95f33ef5041d4aef2cbbf464eb65dde0fc098", func := "chatelaine/chatelainelaw23.MerkleApart", spec := "merkleApart", unfollowed := true, recurses := true, plainKeys := false, apart := false }
def MerkleApartSaid : Prop := merkleApartRow.holds Try.pinned (OpenSpec.ofChange merkleApartSpec)

/-- ITS FALSE NEIGHBOUR: 'it returns false'. Refute it at one input. -/
def merkleApartWrong : ChangeSpec := { name := "merkleApart", fn := fun _ => fun
  | [d1, d2] => { results := [.lit (.bool false)], args := [d1, d2] }
  | _ => none }
def MerkleApartWrongFalsely : Prop := merkleApartRow.holds Try.pinned (OpenSpec.ofChange merkleApartWrong)

/-- 'chatelainelaw23.MerkleDistinct': WHATEVER THE INPUT: true; the input reads as it did. -/
def merkleDistinctSpec : ChangeSpec := { name := "merkleDistinct", fn := fun _ => fun
  | [d] => { results := [.lit (.bool true)], args := [d] }
  | _ => none }
def merkleDistinctRow : OpenClaim := { program := "ytlgcfnbhnpnkiaa", sum := "f2007a4b8b3f5f5d26afce05d9c95f33ef5041d4aef2cbbf464eb65dde0fc098", func := "chatelaine/chatelainelaw23.MerkleDistinct", spec := "merkleDistinct", unfollowed := true, recurses := true, plainKeys := false, apart := false }
def MerkleDistinctSaid : Prop := merkleDistinctRow.holds Try.pinned (OpenSpec.ofChange merkleDistinctSpec)

/-- ITS FALSE NEIGHBOUR: 'it returns false'. Refute it at one input. -/
def merkleDistinctWrong : ChangeSpec := { name := "merkleDistinct", fn := fun _ => fun
  | [d] => { results := [.lit (.bool false)], args := [d] }
  | _ => none }
def MerkleDistinctWrongFalsely : Prop := merkleDistinctRow.holds Try.pinned (OpenSpec.ofChange merkleDistinctWrong)

/-- 'chatelainelaw23.MerkleAlong': WHATEVER THE INPUT: true; the input reads as it did. -/
def merkleAlongSpec : ChangeSpec := { name := "merkleAlong", fn := fun _ => fun
  | [d1, d2, d3] => { results := [.lit (.bool true)], args := [d1, d2, d3] }
  | _ => none }
def merkleAlongRow : OpenClaim := { program := "ytlgcfnbhnpnkiaa", sum := "f2007a4b8b3f5f5d26afce05d9c95f33ef5041d4aef2cbbf464eb65dde0fc098", func := "chatelaine/chatelainelaw23.MerkleAlong", spec := "merkleAlong", unfollowed := true, recurses := true, plainKeys := false, apart := false }
def MerkleAlongSaid : Prop := merkleAlongRow.holds Try.pinned (OpenSpec.ofChange merkleAlongSpec)

/-- ITS FALSE NEIGHBOUR: 'it returns false'. Refute it at one input. -/
def merkleAlongWrong : ChangeSpec := { name := "merkleAlong", fn := fun _ => fun
  | [d1, d2, d3] => { results := [.lit (.bool false)], args := [d1, d2, d3] }
  | _ => none }
def MerkleAlongWrongFalsely : Prop := merkleAlongRow.holds Try.pinned (OpenSpec.ofChange merkleAlongWrong)

/-- 'chatelainelaw23.MerkleRoots': WHATEVER THE INPUT: true; the input reads as it did. -/
def merkleRootsSpec : ChangeSpec := { name := "merkleRoots", fn := fun _ => fun
  | [d1, d2, d3] => { results := [.lit (.bool true)], args := [d1, d2, d3] }
  | _ => none }
def merkleRootsRow : OpenClaim := { program := "ytlgcfnbhnpnkiaa", sum := "f2007a4b8b3f5f5d26afce05d9c95f33ef5041d4aef2cbbf464eb65dde0fc098", func := "chatelaine/chatelainelaw23.MerkleRoots", spec := "merkleRoots", unfollowed := true, recurses := true, plainKeys := false, apart := false }
def MerkleRootsSaid : Prop := merkleRootsRow.holds Try.pinned (OpenSpec.ofChange merkleRootsSpec)

/-- ITS FALSE NEIGHBOUR: 'it returns false'. Refute it at one input. -/
def merkleRootsWrong : ChangeSpec := { name := "merkleRoots", fn := fun _ => fun
  | [d1, d2, d3] => { results := [.lit (.bool false)], args := [d1, d2, d3] }
  | _ => none }
def MerkleRootsWrongFalsely : Prop := merkleRootsRow.holds Try.pinned (OpenSpec.ofChange merkleRootsWrong)

/-- 'chatelainelaw23.MerkleWays': WHATEVER THE INPUT: true; the input reads as it did. -/
def merkleWaysSpec : ChangeSpec := { name := "merkleWays", fn := fun _ => fun
  | [d1, d2, d3] => { results := [.lit (.bool true)], args := [d1, d2, d3] }
  | _ => none }
def merkleWaysRow : OpenClaim := { program := "ytlgcfnbhnpnkiaa", sum := "f2007a4b8b3f5f5d26afce05d9c95f33ef5041d4aef2cbbf464eb65dde0fc098", func := "chatelaine/chatelainelaw23.MerkleWays", spec := "merkleWays", unfollowed := true, recurses := true, plainKeys := false, apart := false }
def MerkleWaysSaid : Prop := merkleWaysRow.holds Try.pinned (OpenSpec.ofChange merkleWaysSpec)

/-- ITS FALSE NEIGHBOUR: 'it returns false'. Refute it at one input. -/
def merkleWaysWrong : ChangeSpec := { name := "merkleWays", fn := fun _ => fun
  | [d1, d2, d3] => { results := [.lit (.bool false)], args := [d1, d2, d3] }
  | _ => none }
def MerkleWaysWrongFalsely : Prop := merkleWaysRow.holds Try.pinned (OpenSpec.ofChange merkleWaysWrong)

/-- 'chatelainelaw24.ForestRoots': WHATEVER THE INPUT: true; the input reads as it did. -/
def forestRootsSpec : ChangeSpec := { name := "forestRoots", fn := fun _ => fun
  | [d] => { results := [.lit (.bool true)], args := [d] }
  | _ => none }
def forestRootsRow : OpenClaim := { program := "ytlgcfnbhnpnkiaa", sum := "f2007a4b8b3f5f5d26afce05d9c95f33ef5041d4aef2cbbf464eb65dde0fc098", func := "chatelaine/chatelainelaw24.ForestRoots", spec := "forestRoots", unfollowed := true, recurses := true, plainKeys := false, apart := false }
def ForestRootsSaid : Prop := forestRootsRow.holds Try.pinned (OpenSpec.ofChange forestRootsSpec)

/-- ITS FALSE NEIGHBOUR: 'it returns false'. Refute it at one input. -/
def forestRootsWrong : ChangeSpec := { name := "forestRoots", fn := fun _ => fun
  | [d] => { results := [.lit (.bool false)], args := [d] }
  | _ => none }
def ForestRootsWrongFalsely : Prop := forestRootsRow.holds Try.pinned (OpenSpec.ofChange forestRootsWrong)

/-- 'chatelainelaw24.ForestOrder': WHATEVER THE INPUT: true; the input reads as it did. -/
def forestOrderSpec : ChangeSpec := { name := "forestOrder", fn := fun _ => fun
  | [d1, d2] => { results := [.lit (.bool true)], args := [d1, d2] }
  | _ => none }
def forestOrderRow : OpenClaim := { program := "ytlgcfnbhnpnkiaa", sum := "f2007a4b8b3f5f5d26afce05d9c95f33ef5041d4aef2cbbf464eb65dde0fc098", func := "chatelaine/chatelainelaw24.ForestOrder", spec := "forestOrder", unfollowed := true, recurses := true, plainKeys := false, apart := false }
def ForestOrderSaid : Prop := forestOrderRow.holds Try.pinned (OpenSpec.ofChange forestOrderSpec)

/-- ITS FALSE NEIGHBOUR: 'it returns false'. Refute it at one input. -/
def forestOrderWrong : ChangeSpec := { name := "forestOrder", fn := fun _ => fun
  | [d1, d2] => { results := [.lit (.bool false)], args := [d1, d2] }
  | _ => none }
def ForestOrderWrongFalsely : Prop := forestOrderRow.holds Try.pinned (OpenSpec.ofChange forestOrderWrong)

/-- 'chatelainelaw24.ForestBinds': WHATEVER THE INPUT: true; the input reads as it did. -/
def forestBindsSpec : ChangeSpec := { name := "forestBinds", fn := fun _ => fun
  | [d1, d2, d3] => { results := [.lit (.bool true)], args := [d1, d2, d3] }
  | _ => none }
def forestBindsRow : OpenClaim := { program := "ytlgcfnbhnpnkiaa", sum := "f2007a4b8b3f5f5d26afce05d9c95f33ef5041d4aef2cbbf464eb65dde0fc098", func := "chatelaine/chatelainelaw24.ForestBinds", spec := "forestBinds", unfollowed := true, recurses := true, plainKeys := false, apart := false }
def ForestBindsSaid : Prop := forestBindsRow.holds Try.pinned (OpenSpec.ofChange forestBindsSpec)

/-- ITS FALSE NEIGHBOUR: 'it returns false'. Refute it at one input. -/
def forestBindsWrong : ChangeSpec := { name := "forestBinds", fn := fun _ => fun
  | [d1, d2, d3] => { results := [.lit (.bool false)], args := [d1, d2, d3] }
  | _ => none }
def ForestBindsWrongFalsely : Prop := forestBindsRow.holds Try.pinned (OpenSpec.ofChange forestBindsWrong)

/-- 'chatelainelaw24.ForestProves': WHATEVER THE INPUT: true; the input reads as it did. -/
def forestProvesSpec : ChangeSpec := { name := "forestProves", fn := fun _ => fun
  | [d1, d2, d3] => { results := [.lit (.bool true)], args := [d1, d2, d3] }
  | _ => none }
def forestProvesRow : OpenClaim := { program := "ytlgcfnbhnpnkiaa", sum := "f2007a4b8b3f5f5d26afce05d9c95f33ef5041d4aef2cbbf464eb65dde0fc098", func := "chatelaine/chatelainelaw24.ForestProves", spec := "forestProves", unfollowed := true, recurses := true, plainKeys := false, apart := false }
def ForestProvesSaid : Prop := forestProvesRow.holds Try.pinned (OpenSpec.ofChange forestProvesSpec)

/-- ITS FALSE NEIGHBOUR: 'it returns false'. Refute it at one input. -/
def forestProvesWrong : ChangeSpec := { name := "forestProves", fn := fun _ => fun
  | [d1, d2, d3] => { results := [.lit (.bool false)], args := [d1, d2, d3] }
  | _ => none }
def ForestProvesWrongFalsely : Prop := forestProvesRow.holds Try.pinned (OpenSpec.ofChange forestProvesWrong)

/-- 'chatelainelaw12.FieldBack': WHATEVER THE INPUT: true; the input reads as it did. -/
def fieldBackSpec : ChangeSpec := { name := "fieldBack", fn := fun _ => fun
  | [d] => { results := [.lit (.bool true)], args := [d] }
  | _ => none }
def fieldBackRow : OpenClaim := { program := "ytlgcfnbhnpnkiaa", sum := "f2007a4b8b3f5f5d26afce05d9c95f33ef5041d4aef2cbbf464eb65dde0fc098", func := "chatelaine/chatelainelaw12.FieldBack", spec := "fieldBack", unfollowed := true, recurses := true, plainKeys := false, apart := false }
def FieldBackSaid : Prop := fieldBackRow.holds Try.pinned (OpenSpec.ofChange fieldBackSpec)

/-- ITS FALSE NEIGHBOUR: 'it returns false'. Refute it at one input. -/
def fieldBackWrong : ChangeSpec := { name := "fieldBack", fn := fun _ => fun
  | [d] => { results := [.lit (.bool false)], args := [d] }
  | _ => none }
def FieldBackWrongFalsely : Prop := fieldBackRow.holds Try.pinned (OpenSpec.ofChange fieldBackWrong)

/- THE SECOND FORM. 'bulk': how many values and letters a reading holds, each counted each time it is reached (what is shared counts as often as it is met; a slice's spare places count too). A statement '..UptoSaid' is the law's where the arguments, and the package variables that the reading takes, are together of bulk at most 1048576: NARROWER than '..Said'. Prove '..Said' where nothing that the law and all that it calls make is longer than what came in: it says more and counts as full. Else prove '..UptoSaid'. A law counts once. -/
mutual
def uptoBulk {H : Type} : DataW H → Nat
  | .lit (.string bytes) => bytes.length + 1
  | .lit _ => 1
  | .nil => 1
  | .ptr d => uptoBulk d + 1
  | .slice elems spare => uptoBulkAll elems + uptoBulkAll spare + 1
  | .agg parts => uptoBulkAll parts + 1
  | .iface _ d => uptoBulk d + 1
  | .map entries => uptoBulkEntries entries + 1
  | .held _ => 1
def uptoBulkAll {H : Type} : List (DataW H) → Nat
  | [] => 0
  | d :: r => uptoBulk d + uptoBulkAll r
def uptoBulkEntries {H : Type} : List (Lit × DataW H) → Nat
  | [] => 0
  | x :: r => uptoBulkEntry x + uptoBulkEntries r
def uptoBulkEntry {H : Type} : Lit × DataW H → Nat
  | (.string bytes, d) => bytes.length + uptoBulk d + 1
  | (_, d) => uptoBulk d + 1
 end
def uptoSmall : (H : Type) → List (DataW H) → Bool := fun _ ds => decide (uptoBulkAll ds ≤ 1048576)
def OpenSpec.upto (s : _root_.Go.ChangeSpec) : _root_.Go.OpenSpec := { _root_.Go.OpenSpec.ofChange s with cond := some uptoSmall }

/-- 'chatelainelaw39.TwinSame', WHERE WHAT IT READS IS OF BULK AT MOST 1048576: true; the input reads as it did. -/
def twinSameUptoRow : OpenClaim := { program := "ytlgcfnbhnpnkiaa", sum := "f2007a4b8b3f5f5d26afce05d9c95f33ef5041d4aef2cbbf464eb65dde0fc098", func := "chatelaine/chatelainelaw39.TwinSame", spec := "twinSame", plainKeys := false, apart := false, narrowed := true }
def TwinSameUptoSaid : Prop := twinSameUptoRow.holds Try.pinned (OpenSpec.upto twinSameSpec)

/-- 'chatelainelaw23.MerkleApart', WHERE WHAT IT READS IS OF BULK AT MOST 1048576: true; the input reads as it did. -/
def merkleApartUptoRow : OpenClaim := { program := "ytlgcfnbhnpnkiaa", sum := "f2007a4b8b3f5f5d26afce05d9c95f33ef5041d4aef2cbbf464eb65dde0fc098", func := "chatelaine/chatelainelaw23.MerkleApart", spec := "merkleApart", unfollowed := true, recurses := true, plainKeys := false, apart := false, narrowed := true }
def MerkleApartUptoSaid : Prop := merkleApartUptoRow.holds Try.pinned (OpenSpec.upto merkleApartSpec)

/-- 'chatelainelaw23.MerkleDistinct', WHERE WHAT IT READS IS OF BULK AT MOST 1048576: true; the input reads as it did. -/
def merkleDistinctUptoRow : OpenClaim := { program := "ytlgcfnbhnpnkiaa", sum := "f2007a4b8b3f5f5d26afce05d9c95f33ef5041d4aef2cbbf464eb65dde0fc098", func := "chatelaine/chatelainelaw23.MerkleDistinct", spec := "merkleDistinct", unfollowed := true, recurses := true, plainKeys := false, apart := false, narrowed := true }
def MerkleDistinctUptoSaid : Prop := merkleDistinctUptoRow.holds Try.pinned (OpenSpec.upto merkleDistinctSpec)

/-- 'chatelainelaw23.MerkleAlong', WHERE WHAT IT READS IS OF BULK AT MOST 1048576: true; the input reads as it did. -/
def merkleAlongUptoRow : OpenClaim := { program := "ytlgcfnbhnpnkiaa", sum := "f2007a4b8b3f5f5d26afce05d9c95f33ef5041d4aef2cbbf464eb65dde0fc098", func := "chatelaine/chatelainelaw23.MerkleAlong", spec := "merkleAlong", unfollowed := true, recurses := true, plainKeys := false, apart := false, narrowed := true }
def MerkleAlongUptoSaid : Prop := merkleAlongUptoRow.holds Try.pinned (OpenSpec.upto merkleAlongSpec)

/-- 'chatelainelaw23.MerkleRoots', WHERE WHAT IT READS IS OF BULK AT MOST 1048576: true; the input reads as it did. -/
def merkleRootsUptoRow : OpenClaim := { program := "ytlgcfnbhnpnkiaa", sum := "f2007a4b8b3f5f5d26afce05d9c95f33ef5041d4aef2cbbf464eb65dde0fc098", func := "chatelaine/chatelainelaw23.MerkleRoots", spec := "merkleRoots", unfollowed := true, recurses := true, plainKeys := false, apart := false, narrowed := true }
def MerkleRootsUptoSaid : Prop := merkleRootsUptoRow.holds Try.pinned (OpenSpec.upto merkleRootsSpec)

/-- 'chatelainelaw23.MerkleWays', WHERE WHAT IT READS IS OF BULK AT MOST 1048576: true; the input reads as it did. -/
def merkleWaysUptoRow : OpenClaim := { program := "ytlgcfnbhnpnkiaa", sum := "f2007a4b8b3f5f5d26afce05d9c95f33ef5041d4aef2cbbf464eb65dde0fc098", func := "chatelaine/chatelainelaw23.MerkleWays", spec := "merkleWays", unfollowed := true, recurses := true, plainKeys := false, apart := false, narrowed := true }
def MerkleWaysUptoSaid : Prop := merkleWaysUptoRow.holds Try.pinned (OpenSpec.upto merkleWaysSpec)

/-- 'chatelainelaw24.ForestRoots', WHERE WHAT IT READS IS OF BULK AT MOST 1048576: true; the input reads as it did. -/
def forestRootsUptoRow : OpenClaim := { program := "ytlgcfnbhnpnkiaa", sum := "f2007a4b8b3f5f5d26afce05d9c95f33ef5041d4aef2cbbf464eb65dde0fc098", func := "chatelaine/chatelainelaw24.ForestRoots", spec := "forestRoots", unfollowed := true, recurses := true, plainKeys := false, apart := false, narrowed := true }
def ForestRootsUptoSaid : Prop := forestRootsUptoRow.holds Try.pinned (OpenSpec.upto forestRootsSpec)

/-- 'chatelainelaw24.ForestOrder', WHERE WHAT IT READS IS OF BULK AT MOST 1048576: true; the input reads as it did. -/
def forestOrderUptoRow : OpenClaim := { program := "ytlgcfnbhnpnkiaa", sum := "f2007a4b8b3f5f5d26afce05d9c95f33ef5041d4aef2cbbf464eb65dde0fc098", func := "chatelaine/chatelainelaw24.ForestOrder", spec := "forestOrder", unfollowed := true, recurses := true, plainKeys := false, apart := false, narrowed := true }
def ForestOrderUptoSaid : Prop := forestOrderUptoRow.holds Try.pinned (OpenSpec.upto forestOrderSpec)

/-- 'chatelainelaw24.ForestBinds', WHERE WHAT IT READS IS OF BULK AT MOST 1048576: true; the input reads as it did. -/
def forestBindsUptoRow : OpenClaim := { program := "ytlgcfnbhnpnkiaa", sum := "f2007a4b8b3f5f5d26afce05d9c95f33ef5041d4aef2cbbf464eb65dde0fc098", func := "chatelaine/chatelainelaw24.ForestBinds", spec := "forestBinds", unfollowed := true, recurses := true, plainKeys := false, apart := false, narrowed := true }
def ForestBindsUptoSaid : Prop := forestBindsUptoRow.holds Try.pinned (OpenSpec.upto forestBindsSpec)

/-- 'chatelainelaw24.ForestProves', WHERE WHAT IT READS IS OF BULK AT MOST 1048576: true; the input reads as it did. -/
def forestProvesUptoRow : OpenClaim := { program := "ytlgcfnbhnpnkiaa", sum := "f2007a4b8b3f5f5d26afce05d9c95f33ef5041d4aef2cbbf464eb65dde0fc098", func := "chatelaine/chatelainelaw24.ForestProves", spec := "forestProves", unfollowed := true, recurses := true, plainKeys := false, apart := false, narrowed := true }
def ForestProvesUptoSaid : Prop := forestProvesUptoRow.holds Try.pinned (OpenSpec.upto forestProvesSpec)

/-- 'chatelainelaw12.FieldBack', WHERE WHAT IT READS IS OF BULK AT MOST 1048576: true; the input reads as it did. -/
def fieldBackUptoRow : OpenClaim := { program := "ytlgcfnbhnpnkiaa", sum := "f2007a4b8b3f5f5d26afce05d9c95f33ef5041d4aef2cbbf464eb65dde0fc098", func := "chatelaine/chatelainelaw12.FieldBack", spec := "fieldBack", unfollowed := true, recurses := true, plainKeys := false, apart := false, narrowed := true }
def FieldBackUptoSaid : Prop := fieldBackUptoRow.holds Try.pinned (OpenSpec.upto fieldBackSpec)

end Rows
end Go.Proofs.Ytlgcfnbhnpnkiaa
