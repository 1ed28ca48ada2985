/-
  No cell of these rows narrows 'for every input' (looked for: loops, veiled, ifaces, maps, wideKeys, modest, calm, conditions, laid).
  DERIVED. THE GIVEN ROWS OF THIS SEAT. 7 by the template 'for every input the law returns true; each argument reads behind the call as it read before'; 0 by the template 'total and deterministic' (their statements: YtldofiankhimjaaTotals.lean).
  GIVEN WITH THE SEED: the statements are not yours to turn. If you find one false, say at which input.
  Laid BY PROGRAM, IN A SANDBOX (cutbox-rows.mjs): the forced cells as the released guide's own fill.sh prints them over the translation 6edd481ddf37a7e4… (all of the seat's roots in one cut). By AI agents, Wed Nov 11 2026. No macro, syntax, notation, axiom, sorry.
-/
import Derived.Test.YtldofiankhimjaaChecked
import GoSem.Claim
import GoSem.ClaimJoined
import GoSem.ClaimMapViews
import Derived.JoinedTies
import Derived.KernelRfl
namespace Go.Proofs.Ytldofiankhimjaa
/- THE CELL 'sum', in the pinned program and in every row, IS THE sha256 OF THE DUMP (.gsa) THAT YtldofiankhimjaaProg.lean LOADS. Nothing in Lean hashes anything: it is a label: what it is worth is what the hold of that sum in a sandbox is worth. -/
noncomputable def Try.pinned : Pinned := { name := "ytldofiankhimjaa", sum := "6edd481ddf37a7e494930ae93b546911d38b2971dc8d3e0bcb41a5db113ec699", checked := Try.checked }
namespace Rows
def none {H : Type} : Left H := { results := [], args := [] }

/-- 'disjointlaw07.BtreeInsertionOrder': WHATEVER THE INPUT: true; the input reads as it did. -/
def btreeInsertionOrderSpec : ChangeSpec := { name := "btreeInsertionOrder", fn := fun _ => fun
  | [d1, d2] => { results := [.lit (.bool true)], args := [d1, d2] }
  | _ => none }
def btreeInsertionOrderRow : OpenClaim := { program := "ytldofiankhimjaa", sum := "6edd481ddf37a7e494930ae93b546911d38b2971dc8d3e0bcb41a5db113ec699", func := "disjoint/disjointlaw07.BtreeInsertionOrder", spec := "btreeInsertionOrder", inPlace := ["slices.overlaps[int]", "slices.overlaps[*disjoint/btree.node[int, int]]"], unfollowed := true, recurses := true, apart := false }
def BtreeInsertionOrderSaid : Prop := btreeInsertionOrderRow.holds Try.pinned (OpenSpec.ofChange btreeInsertionOrderSpec)

/-- ITS FALSE NEIGHBOUR: 'it returns false'. Refute it at one input. -/
def btreeInsertionOrderWrong : ChangeSpec := { name := "btreeInsertionOrder", fn := fun _ => fun
  | [d1, d2] => { results := [.lit (.bool false)], args := [d1, d2] }
  | _ => none }
def BtreeInsertionOrderWrongFalsely : Prop := btreeInsertionOrderRow.holds Try.pinned (OpenSpec.ofChange btreeInsertionOrderWrong)

/-- 'disjointlaw07.BtreeStrings': WHATEVER THE INPUT: true; the input reads as it did. -/
def btreeStringsSpec : ChangeSpec := { name := "btreeStrings", fn := fun _ => fun
  | [d1, d2] => { results := [.lit (.bool true)], args := [d1, d2] }
  | _ => none }
def btreeStringsRow : OpenClaim := { program := "ytldofiankhimjaa", sum := "6edd481ddf37a7e494930ae93b546911d38b2971dc8d3e0bcb41a5db113ec699", func := "disjoint/disjointlaw07.BtreeStrings", spec := "btreeStrings", inPlace := ["slices.overlaps[int]", "slices.overlaps[*disjoint/btree.node[int, int]]", "slices.overlaps[string]", "slices.overlaps[*disjoint/btree.node[string, int]]"], unfollowed := true, recurses := true, apart := false }
def BtreeStringsSaid : Prop := btreeStringsRow.holds Try.pinned (OpenSpec.ofChange btreeStringsSpec)

/-- ITS FALSE NEIGHBOUR: 'it returns false'. Refute it at one input. -/
def btreeStringsWrong : ChangeSpec := { name := "btreeStrings", fn := fun _ => fun
  | [d1, d2] => { results := [.lit (.bool false)], args := [d1, d2] }
  | _ => none }
def BtreeStringsWrongFalsely : Prop := btreeStringsRow.holds Try.pinned (OpenSpec.ofChange btreeStringsWrong)

/-- 'disjointlaw07.BtreeSnapshot': WHATEVER THE INPUT: true; the input reads as it did. -/
def btreeSnapshotSpec : ChangeSpec := { name := "btreeSnapshot", fn := fun _ => fun
  | [d1, d2, d3] => { results := [.lit (.bool true)], args := [d1, d2, d3] }
  | _ => none }
def btreeSnapshotRow : OpenClaim := { program := "ytldofiankhimjaa", sum := "6edd481ddf37a7e494930ae93b546911d38b2971dc8d3e0bcb41a5db113ec699", func := "disjoint/disjointlaw07.BtreeSnapshot", spec := "btreeSnapshot", inPlace := ["slices.overlaps[int]", "slices.overlaps[*disjoint/btree.node[int, int]]"], unfollowed := true, recurses := true, apart := false }
def BtreeSnapshotSaid : Prop := btreeSnapshotRow.holds Try.pinned (OpenSpec.ofChange btreeSnapshotSpec)

/-- ITS FALSE NEIGHBOUR: 'it returns false'. Refute it at one input. -/
def btreeSnapshotWrong : ChangeSpec := { name := "btreeSnapshot", fn := fun _ => fun
  | [d1, d2, d3] => { results := [.lit (.bool false)], args := [d1, d2, d3] }
  | _ => none }
def BtreeSnapshotWrongFalsely : Prop := btreeSnapshotRow.holds Try.pinned (OpenSpec.ofChange btreeSnapshotWrong)

/-- 'disjointlaw07.BtreeIterates': WHATEVER THE INPUT: true; the input reads as it did. -/
def btreeIteratesSpec : ChangeSpec := { name := "btreeIterates", fn := fun _ => fun
  | [d1, d2, d3] => { results := [.lit (.bool true)], args := [d1, d2, d3] }
  | _ => none }
def btreeIteratesRow : OpenClaim := { program := "ytldofiankhimjaa", sum := "6edd481ddf37a7e494930ae93b546911d38b2971dc8d3e0bcb41a5db113ec699", func := "disjoint/disjointlaw07.BtreeIterates", spec := "btreeIterates", inPlace := ["slices.overlaps[int]", "slices.overlaps[*disjoint/btree.node[int, int]]"], unfollowed := true, recurses := true, apart := false }
def BtreeIteratesSaid : Prop := btreeIteratesRow.holds Try.pinned (OpenSpec.ofChange btreeIteratesSpec)

/-- ITS FALSE NEIGHBOUR: 'it returns false'. Refute it at one input. -/
def btreeIteratesWrong : ChangeSpec := { name := "btreeIterates", fn := fun _ => fun
  | [d1, d2, d3] => { results := [.lit (.bool false)], args := [d1, d2, d3] }
  | _ => none }
def BtreeIteratesWrongFalsely : Prop := btreeIteratesRow.holds Try.pinned (OpenSpec.ofChange btreeIteratesWrong)

/-- 'disjointlaw07.BtreeEmpties': WHATEVER THE INPUT: true; the input reads as it did. -/
def btreeEmptiesSpec : ChangeSpec := { name := "btreeEmpties", fn := fun _ => fun
  | [d1, d2, d3] => { results := [.lit (.bool true)], args := [d1, d2, d3] }
  | _ => none }
def btreeEmptiesRow : OpenClaim := { program := "ytldofiankhimjaa", sum := "6edd481ddf37a7e494930ae93b546911d38b2971dc8d3e0bcb41a5db113ec699", func := "disjoint/disjointlaw07.BtreeEmpties", spec := "btreeEmpties", inPlace := ["slices.overlaps[int]", "slices.overlaps[*disjoint/btree.node[int, int]]"], unfollowed := true, recurses := true, apart := false }
def BtreeEmptiesSaid : Prop := btreeEmptiesRow.holds Try.pinned (OpenSpec.ofChange btreeEmptiesSpec)

/-- ITS FALSE NEIGHBOUR: 'it returns false'. Refute it at one input. -/
def btreeEmptiesWrong : ChangeSpec := { name := "btreeEmpties", fn := fun _ => fun
  | [d1, d2, d3] => { results := [.lit (.bool false)], args := [d1, d2, d3] }
  | _ => none }
def BtreeEmptiesWrongFalsely : Prop := btreeEmptiesRow.holds Try.pinned (OpenSpec.ofChange btreeEmptiesWrong)

/-- 'disjointlaw07.BtreeMatchesMap': WHATEVER THE INPUT: true; the input reads as it did. -/
def btreeMatchesMapSpec : ChangeSpec := { name := "btreeMatchesMap", fn := fun _ => fun
  | [d1, d2] => { results := [.lit (.bool true)], args := [d1, d2] }
  | _ => none }
def btreeMatchesMapRow : OpenClaim := { program := "ytldofiankhimjaa", sum := "6edd481ddf37a7e494930ae93b546911d38b2971dc8d3e0bcb41a5db113ec699", func := "disjoint/disjointlaw07.BtreeMatchesMap", spec := "btreeMatchesMap", inPlace := ["slices.overlaps[int]", "slices.overlaps[*disjoint/btree.node[int, int]]"], unfollowed := true, recurses := true, apart := false }
def BtreeMatchesMapSaid : Prop := btreeMatchesMapRow.holds Try.pinned (OpenSpec.ofChange btreeMatchesMapSpec)

/-- ITS FALSE NEIGHBOUR: 'it returns false'. Refute it at one input. -/
def btreeMatchesMapWrong : ChangeSpec := { name := "btreeMatchesMap", fn := fun _ => fun
  | [d1, d2] => { results := [.lit (.bool false)], args := [d1, d2] }
  | _ => none }
def BtreeMatchesMapWrongFalsely : Prop := btreeMatchesMapRow.holds Try.pinned (OpenSpec.ofChange btreeMatchesMapWrong)

/-- 'disjointlaw07.BtreeLarge': WHATEVER THE INPUT: true; the input reads as it did. -/
def btreeLargeSpec : ChangeSpec := { name := "btreeLarge", fn := fun _ => fun
  | [d1, d2] => { results := [.lit (.bool true)], args := [d1, d2] }
  | _ => none }
def btreeLargeRow : OpenClaim := { program := "ytldofiankhimjaa", sum := "6edd481ddf37a7e494930ae93b546911d38b2971dc8d3e0bcb41a5db113ec699", func := "disjoint/disjointlaw07.BtreeLarge", spec := "btreeLarge", inPlace := ["slices.overlaps[int]", "slices.overlaps[*disjoint/btree.node[int, int]]"], unfollowed := true, recurses := true, apart := false }
def BtreeLargeSaid : Prop := btreeLargeRow.holds Try.pinned (OpenSpec.ofChange btreeLargeSpec)

/-- ITS FALSE NEIGHBOUR: 'it returns false'. Refute it at one input. -/
def btreeLargeWrong : ChangeSpec := { name := "btreeLarge", fn := fun _ => fun
  | [d1, d2] => { results := [.lit (.bool false)], args := [d1, d2] }
  | _ => none }
def BtreeLargeWrongFalsely : Prop := btreeLargeRow.holds Try.pinned (OpenSpec.ofChange btreeLargeWrong)

/- THE SECOND FORM. 'bulk': how many values and letters a reading holds, each counted each time it is reached (what is shared counts as often as it is met; a slice's spare places count too). A statement '..UptoSaid' is the law's where the arguments, and the package variables that the reading takes, are together of bulk at most 1048576: NARROWER than '..Said'. Prove '..Said' where nothing that the law and all that it calls make is longer than what came in: it says more and counts as full. Else prove '..UptoSaid'. A law counts once. -/
mutual
def uptoBulk {H : Type} : DataW H → Nat
  | .lit (.string bytes) => bytes.length + 1
  | .lit _ => 1
  | .nil => 1
  | .ptr d => uptoBulk d + 1
  | .slice elems spare => uptoBulkAll elems + uptoBulkAll spare + 1
  | .agg parts => uptoBulkAll parts + 1
  | .iface _ d => uptoBulk d + 1
  | .map entries => uptoBulkEntries entries + 1
  | .held _ => 1
def uptoBulkAll {H : Type} : List (DataW H) → Nat
  | [] => 0
  | d :: r => uptoBulk d + uptoBulkAll r
def uptoBulkEntries {H : Type} : List (Lit × DataW H) → Nat
  | [] => 0
  | x :: r => uptoBulkEntry x + uptoBulkEntries r
def uptoBulkEntry {H : Type} : Lit × DataW H → Nat
  | (.string bytes, d) => bytes.length + uptoBulk d + 1
  | (_, d) => uptoBulk d + 1
 end
def uptoSmall : (H : Type) → List (DataW H) → Bool := fun _ ds => decide (uptoBulkAll ds ≤ 1048576)
def OpenSpec.upto (s : _root_.Go.ChangeSpec) : _root_.Go.OpenSpec := { _root_.Go.OpenSpec.ofChange s with cond := some uptoSmall }

/-- 'disjointlaw07.BtreeInsertionOrder', WHERE WHAT IT READS IS OF BULK AT MOST 1048576: true; the input reads as it did. -/
def btreeInsertionOrderUptoRow : OpenClaim := { program := "ytldofiankhimjaa", sum := "6edd481ddf37a7e494930ae93b546911d38b2971dc8d3e0bcb41a5db113ec699", func := "disjoint/disjointlaw07.BtreeInsertionOrder", spec := "btreeInsertionOrder", inPlace := ["slices.overlaps[int]", "slices.overlaps[*disjoint/btree.node[int, int]]"], unfollowed := true, recurses := true, apart := false, narrowed := true }
def BtreeInsertionOrderUptoSaid : Prop := btreeInsertionOrderUptoRow.holds Try.pinned (OpenSpec.upto btreeInsertionOrderSpec)

/-- 'disjointlaw07.BtreeStrings', WHERE WHAT IT READS IS OF BULK AT MOST 1048576: true; the input reads as it did. -/
def btreeStringsUptoRow : OpenClaim := { program := "ytldofiankhimjaa", sum := "6edd481ddf37a7e494930ae93b546911d38b2971dc8d3e0bcb41a5db113ec699", func := "disjoint/disjointlaw07.BtreeStrings", spec := "btreeStrings", inPlace := ["slices.overlaps[int]", "slices.overlaps[*disjoint/btree.node[int, int]]", "slices.overlaps[string]", "slices.overlaps[*disjoint/btree.node[string, int]]"], unfollowed := true, recurses := true, apart := false, narrowed := true }
def BtreeStringsUptoSaid : Prop := btreeStringsUptoRow.holds Try.pinned (OpenSpec.upto btreeStringsSpec)

/-- 'disjointlaw07.BtreeSnapshot', WHERE WHAT IT READS IS OF BULK AT MOST 1048576: true; the input reads as it did. -/
def btreeSnapshotUptoRow : OpenClaim := { program := "ytldofiankhimjaa", sum := "6edd481ddf37a7e494930ae93b546911d38b2971dc8d3e0bcb41a5db113ec699", func := "disjoint/disjointlaw07.BtreeSnapshot", spec := "btreeSnapshot", inPlace := ["slices.overlaps[int]", "slices.overlaps[*disjoint/btree.node[int, int]]"], unfollowed := true, recurses := true, apart := false, narrowed := true }
def BtreeSnapshotUptoSaid : Prop := btreeSnapshotUptoRow.holds Try.pinned (OpenSpec.upto btreeSnapshotSpec)

/-- 'disjointlaw07.BtreeIterates', WHERE WHAT IT READS IS OF BULK AT MOST 1048576: true; the input reads as it did. -/
def btreeIteratesUptoRow : OpenClaim := { program := "ytldofiankhimjaa", sum := "6edd481ddf37a7e494930ae93b546911d38b2971dc8d3e0bcb41a5db113ec699", func := "disjoint/disjointlaw07.BtreeIterates", spec := "btreeIterates", inPlace := ["slices.overlaps[int]", "slices.overlaps[*disjoint/btree.node[int, int]]"], unfollowed := true, recurses := true, apart := false, narrowed := true }
def BtreeIteratesUptoSaid : Prop := btreeIteratesUptoRow.holds Try.pinned (OpenSpec.upto btreeIteratesSpec)

/-- 'disjointlaw07.BtreeEmpties', WHERE WHAT IT READS IS OF BULK AT MOST 1048576: true; the input reads as it did. -/
def btreeEmptiesUptoRow : OpenClaim := { program := "ytldofiankhimjaa", sum := "6edd481ddf37a7e494930ae93b546911d38b2971dc8d3e0bcb41a5db113ec699", func := "disjoint/disjointlaw07.BtreeEmpties", spec := "btreeEmpties", inPlace := ["slices.overlaps[int]", "slices.overlaps[*disjoint/btree.node[int, int]]"], unfollowed := true, recurses := true, apart := false, narrowed := true }
def BtreeEmptiesUptoSaid : Prop := btreeEmptiesUptoRow.holds Try.pinned (OpenSpec.upto btreeEmptiesSpec)

/-- 'disjointlaw07.BtreeMatchesMap', WHERE WHAT IT READS IS OF BULK AT MOST 1048576: true; the input reads as it did. -/
def btreeMatchesMapUptoRow : OpenClaim := { program := "ytldofiankhimjaa", sum := "6edd481ddf37a7e494930ae93b546911d38b2971dc8d3e0bcb41a5db113ec699", func := "disjoint/disjointlaw07.BtreeMatchesMap", spec := "btreeMatchesMap", inPlace := ["slices.overlaps[int]", "slices.overlaps[*disjoint/btree.node[int, int]]"], unfollowed := true, recurses := true, apart := false, narrowed := true }
def BtreeMatchesMapUptoSaid : Prop := btreeMatchesMapUptoRow.holds Try.pinned (OpenSpec.upto btreeMatchesMapSpec)

/-- 'disjointlaw07.BtreeLarge', WHERE WHAT IT READS IS OF BULK AT MOST 1048576: true; the input reads as it did. -/
def btreeLargeUptoRow : OpenClaim := { program := "ytldofiankhimjaa", sum := "6edd481ddf37a7e494930ae93b546911d38b2971dc8d3e0bcb41a5db113ec699", func := "disjoint/disjointlaw07.BtreeLarge", spec := "btreeLarge", inPlace := ["slices.overlaps[int]", "slices.overlaps[*disjoint/btree.node[int, int]]"], unfollowed := true, recurses := true, apart := false, narrowed := true }
def BtreeLargeUptoSaid : Prop := btreeLargeUptoRow.holds Try.pinned (OpenSpec.upto btreeLargeSpec)

end Rows
end Go.Proofs.Ytldofiankhimjaa
