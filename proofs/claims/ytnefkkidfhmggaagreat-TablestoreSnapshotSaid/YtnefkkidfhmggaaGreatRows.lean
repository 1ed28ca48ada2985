/-
  No cell of these rows narrows 'for every input' (looked for: loops, veiled, ifaces, maps, wideKeys, modest, calm, conditions, laid).
  DERIVED. THE GIVEN ROWS OF THIS SEAT. 6 by the template 'for every input the law returns true; each argument reads behind the call as it read before'; 0 by the template 'total and deterministic' (their statements: YtnefkkidfhmggaaGreatTotals.lean).
  GIVEN WITH THE SEED: the statements are not yours to turn. If you find one false, say at which input.
  Laid BY PROGRAM, IN A SANDBOX (cutbox-rows.mjs): the forced cells as the released guide's own fill.sh prints them over the translation cfa5ad040a047c19… (all of the seat's roots in one cut). By AI agents, Wed Nov 11 2026. No macro, syntax, notation, axiom, sorry.
-/
import Derived.Test.YtnefkkidfhmggaaGreatChecked
import GoSem.Claim
import GoSem.ClaimJoined
import GoSem.ClaimMapViews
import Derived.JoinedTies
import Derived.KernelRfl
namespace Go.Proofs.YtnefkkidfhmggaaGreat
/- THE CELL 'sum', in the pinned program and in every row, IS THE sha256 OF THE DUMP (.gsa) THAT YtnefkkidfhmggaaGreatProg.lean LOADS. Nothing in Lean hashes anything: it is a label: what it is worth is what the hold of that sum in a sandbox is worth. -/
noncomputable def Tryz.pinned : Pinned := { name := "ytnefkkidfhmggaagreat", sum := "cfa5ad040a047c1991bbdb9229689d03f9df088238e309095218409d0fb169e8", checked := Tryz.checked }
namespace Rows
def none {H : Type} : Left H := { results := [], args := [] }

/-- 'disjointlaw39.TablestoreLookup': WHATEVER THE INPUT: true; the input reads as it did. -/
def tablestoreLookupSpec : ChangeSpec := { name := "tablestoreLookup", fn := fun _ => fun
  | [d1, d2, d3] => { results := [.lit (.bool true)], args := [d1, d2, d3] }
  | _ => none }
def tablestoreLookupRow : OpenClaim := { program := "ytnefkkidfhmggaagreat", sum := "cfa5ad040a047c1991bbdb9229689d03f9df088238e309095218409d0fb169e8", func := "disjoint/disjointlaw39.TablestoreLookup", spec := "tablestoreLookup", inPlace := ["slices.overlaps[int64]", "slices.overlaps[disjoint/api.Row]", "slices.overlaps[*disjoint/btree.node[int64, disjoint/api.Row]]", "slices.overlaps[string]", "slices.overlaps[*disjoint/btree.node[string, int64]]", "internal/bytealg.abigen_runtime_cmpstring"], unfollowed := true, recurses := true, apart := false }
def TablestoreLookupSaid : Prop := tablestoreLookupRow.holds Tryz.pinned (OpenSpec.ofChange tablestoreLookupSpec)

/-- ITS FALSE NEIGHBOUR: 'it returns false'. Refute it at one input. -/
def tablestoreLookupWrong : ChangeSpec := { name := "tablestoreLookup", fn := fun _ => fun
  | [d1, d2, d3] => { results := [.lit (.bool false)], args := [d1, d2, d3] }
  | _ => none }
def TablestoreLookupWrongFalsely : Prop := tablestoreLookupRow.holds Tryz.pinned (OpenSpec.ofChange tablestoreLookupWrong)

/-- 'disjointlaw39.TablestoreMatchesList': WHATEVER THE INPUT: true; the input reads as it did. -/
def tablestoreMatchesListSpec : ChangeSpec := { name := "tablestoreMatchesList", fn := fun _ => fun
  | [d1, d2] => { results := [.lit (.bool true)], args := [d1, d2] }
  | _ => none }
def tablestoreMatchesListRow : OpenClaim := { program := "ytnefkkidfhmggaagreat", sum := "cfa5ad040a047c1991bbdb9229689d03f9df088238e309095218409d0fb169e8", func := "disjoint/disjointlaw39.TablestoreMatchesList", spec := "tablestoreMatchesList", inPlace := ["slices.overlaps[int64]", "slices.overlaps[disjoint/api.Row]", "slices.overlaps[*disjoint/btree.node[int64, disjoint/api.Row]]", "slices.overlaps[string]", "slices.overlaps[*disjoint/btree.node[string, int64]]", "internal/bytealg.abigen_runtime_cmpstring"], unfollowed := true, recurses := true, apart := false }
def TablestoreMatchesListSaid : Prop := tablestoreMatchesListRow.holds Tryz.pinned (OpenSpec.ofChange tablestoreMatchesListSpec)

/-- ITS FALSE NEIGHBOUR: 'it returns false'. Refute it at one input. -/
def tablestoreMatchesListWrong : ChangeSpec := { name := "tablestoreMatchesList", fn := fun _ => fun
  | [d1, d2] => { results := [.lit (.bool false)], args := [d1, d2] }
  | _ => none }
def TablestoreMatchesListWrongFalsely : Prop := tablestoreMatchesListRow.holds Tryz.pinned (OpenSpec.ofChange tablestoreMatchesListWrong)

/-- 'disjointlaw39.TablestoreLarge': WHATEVER THE INPUT: true; the input reads as it did. -/
def tablestoreLargeSpec : ChangeSpec := { name := "tablestoreLarge", fn := fun _ => fun
  | [d1, d2] => { results := [.lit (.bool true)], args := [d1, d2] }
  | _ => none }
def tablestoreLargeRow : OpenClaim := { program := "ytnefkkidfhmggaagreat", sum := "cfa5ad040a047c1991bbdb9229689d03f9df088238e309095218409d0fb169e8", func := "disjoint/disjointlaw39.TablestoreLarge", spec := "tablestoreLarge", inPlace := ["slices.overlaps[int64]", "slices.overlaps[disjoint/api.Row]", "slices.overlaps[*disjoint/btree.node[int64, disjoint/api.Row]]", "slices.overlaps[string]", "slices.overlaps[*disjoint/btree.node[string, int64]]", "internal/bytealg.abigen_runtime_cmpstring"], unfollowed := true, recurses := true, apart := false }
def TablestoreLargeSaid : Prop := tablestoreLargeRow.holds Tryz.pinned (OpenSpec.ofChange tablestoreLargeSpec)

/-- ITS FALSE NEIGHBOUR: 'it returns false'. Refute it at one input. -/
def tablestoreLargeWrong : ChangeSpec := { name := "tablestoreLarge", fn := fun _ => fun
  | [d1, d2] => { results := [.lit (.bool false)], args := [d1, d2] }
  | _ => none }
def TablestoreLargeWrongFalsely : Prop := tablestoreLargeRow.holds Tryz.pinned (OpenSpec.ofChange tablestoreLargeWrong)

/-- 'disjointlaw39.TablestoreIndexes': WHATEVER THE INPUT: true; the input reads as it did. -/
def tablestoreIndexesSpec : ChangeSpec := { name := "tablestoreIndexes", fn := fun _ => fun
  | [d1, d2, d3] => { results := [.lit (.bool true)], args := [d1, d2, d3] }
  | _ => none }
def tablestoreIndexesRow : OpenClaim := { program := "ytnefkkidfhmggaagreat", sum := "cfa5ad040a047c1991bbdb9229689d03f9df088238e309095218409d0fb169e8", func := "disjoint/disjointlaw39.TablestoreIndexes", spec := "tablestoreIndexes", inPlace := ["slices.overlaps[int64]", "slices.overlaps[disjoint/api.Row]", "slices.overlaps[*disjoint/btree.node[int64, disjoint/api.Row]]", "slices.overlaps[string]", "slices.overlaps[*disjoint/btree.node[string, int64]]", "internal/bytealg.abigen_runtime_cmpstring"], unfollowed := true, recurses := true, apart := false }
def TablestoreIndexesSaid : Prop := tablestoreIndexesRow.holds Tryz.pinned (OpenSpec.ofChange tablestoreIndexesSpec)

/-- ITS FALSE NEIGHBOUR: 'it returns false'. Refute it at one input. -/
def tablestoreIndexesWrong : ChangeSpec := { name := "tablestoreIndexes", fn := fun _ => fun
  | [d1, d2, d3] => { results := [.lit (.bool false)], args := [d1, d2, d3] }
  | _ => none }
def TablestoreIndexesWrongFalsely : Prop := tablestoreIndexesRow.holds Tryz.pinned (OpenSpec.ofChange tablestoreIndexesWrong)

/-- 'disjointlaw39.TablestoreSnapshot': WHATEVER THE INPUT: true; the input reads as it did. -/
def tablestoreSnapshotSpec : ChangeSpec := { name := "tablestoreSnapshot", fn := fun _ => fun
  | [d1, d2, d3] => { results := [.lit (.bool true)], args := [d1, d2, d3] }
  | _ => none }
def tablestoreSnapshotRow : OpenClaim := { program := "ytnefkkidfhmggaagreat", sum := "cfa5ad040a047c1991bbdb9229689d03f9df088238e309095218409d0fb169e8", func := "disjoint/disjointlaw39.TablestoreSnapshot", spec := "tablestoreSnapshot", inPlace := ["slices.overlaps[int64]", "slices.overlaps[disjoint/api.Row]", "slices.overlaps[*disjoint/btree.node[int64, disjoint/api.Row]]", "slices.overlaps[string]", "slices.overlaps[*disjoint/btree.node[string, int64]]", "internal/bytealg.abigen_runtime_cmpstring"], unfollowed := true, recurses := true, apart := false }
def TablestoreSnapshotSaid : Prop := tablestoreSnapshotRow.holds Tryz.pinned (OpenSpec.ofChange tablestoreSnapshotSpec)

/-- ITS FALSE NEIGHBOUR: 'it returns false'. Refute it at one input. -/
def tablestoreSnapshotWrong : ChangeSpec := { name := "tablestoreSnapshot", fn := fun _ => fun
  | [d1, d2, d3] => { results := [.lit (.bool false)], args := [d1, d2, d3] }
  | _ => none }
def TablestoreSnapshotWrongFalsely : Prop := tablestoreSnapshotRow.holds Tryz.pinned (OpenSpec.ofChange tablestoreSnapshotWrong)

/-- 'disjointlaw39.TablestoreNoAliasing': WHATEVER THE INPUT: true; the input reads as it did. -/
def tablestoreNoAliasingSpec : ChangeSpec := { name := "tablestoreNoAliasing", fn := fun _ => fun
  | [d1, d2, d3] => { results := [.lit (.bool true)], args := [d1, d2, d3] }
  | _ => none }
def tablestoreNoAliasingRow : OpenClaim := { program := "ytnefkkidfhmggaagreat", sum := "cfa5ad040a047c1991bbdb9229689d03f9df088238e309095218409d0fb169e8", func := "disjoint/disjointlaw39.TablestoreNoAliasing", spec := "tablestoreNoAliasing", inPlace := ["slices.overlaps[int64]", "slices.overlaps[disjoint/api.Row]", "slices.overlaps[*disjoint/btree.node[int64, disjoint/api.Row]]", "slices.overlaps[string]", "slices.overlaps[*disjoint/btree.node[string, int64]]", "internal/bytealg.abigen_runtime_cmpstring"], unfollowed := true, recurses := true, apart := false }
def TablestoreNoAliasingSaid : Prop := tablestoreNoAliasingRow.holds Tryz.pinned (OpenSpec.ofChange tablestoreNoAliasingSpec)

/-- ITS FALSE NEIGHBOUR: 'it returns false'. Refute it at one input. -/
def tablestoreNoAliasingWrong : ChangeSpec := { name := "tablestoreNoAliasing", fn := fun _ => fun
  | [d1, d2, d3] => { results := [.lit (.bool false)], args := [d1, d2, d3] }
  | _ => none }
def TablestoreNoAliasingWrongFalsely : Prop := tablestoreNoAliasingRow.holds Tryz.pinned (OpenSpec.ofChange tablestoreNoAliasingWrong)

/- THE SECOND FORM. 'bulk': how many values and letters a reading holds, each counted each time it is reached (what is shared counts as often as it is met; a slice's spare places count too). A statement '..UptoSaid' is the law's where the arguments, and the package variables that the reading takes, are together of bulk at most 1048576: NARROWER than '..Said'. Prove '..Said' where nothing that the law and all that it calls make is longer than what came in: it says more and counts as full. Else prove '..UptoSaid'. A law counts once. -/
mutual
def uptoBulk {H : Type} : DataW H → Nat
  | .lit (.string bytes) => bytes.length + 1
  | .lit _ => 1
  | .nil => 1
  | .ptr d => uptoBulk d + 1
  | .slice elems spare => uptoBulkAll elems + uptoBulkAll spare + 1
  | .agg parts => uptoBulkAll parts + 1
  | .iface _ d => uptoBulk d + 1
  | .map entries => uptoBulkEntries entries + 1
  | .held _ => 1
def uptoBulkAll {H : Type} : List (DataW H) → Nat
  | [] => 0
  | d :: r => uptoBulk d + uptoBulkAll r
def uptoBulkEntries {H : Type} : List (Lit × DataW H) → Nat
  | [] => 0
  | x :: r => uptoBulkEntry x + uptoBulkEntries r
def uptoBulkEntry {H : Type} : Lit × DataW H → Nat
  | (.string bytes, d) => bytes.length + uptoBulk d + 1
  | (_, d) => uptoBulk d + 1
 end
def uptoSmall : (H : Type) → List (DataW H) → Bool := fun _ ds => decide (uptoBulkAll ds ≤ 1048576)
def OpenSpec.upto (s : _root_.Go.ChangeSpec) : _root_.Go.OpenSpec := { _root_.Go.OpenSpec.ofChange s with cond := some uptoSmall }

/-- 'disjointlaw39.TablestoreLookup', WHERE WHAT IT READS IS OF BULK AT MOST 1048576: true; the input reads as it did. -/
def tablestoreLookupUptoRow : OpenClaim := { program := "ytnefkkidfhmggaagreat", sum := "cfa5ad040a047c1991bbdb9229689d03f9df088238e309095218409d0fb169e8", func := "disjoint/disjointlaw39.TablestoreLookup", spec := "tablestoreLookup", inPlace := ["slices.overlaps[int64]", "slices.overlaps[disjoint/api.Row]", "slices.overlaps[*disjoint/btree.node[int64, disjoint/api.Row]]", "slices.overlaps[string]", "slices.overlaps[*disjoint/btree.node[string, int64]]", "internal/bytealg.abigen_runtime_cmpstring"], unfollowed := true, recurses := true, apart := false, narrowed := true }
def TablestoreLookupUptoSaid : Prop := tablestoreLookupUptoRow.holds Tryz.pinned (OpenSpec.upto tablestoreLookupSpec)

/-- 'disjointlaw39.TablestoreMatchesList', WHERE WHAT IT READS IS OF BULK AT MOST 1048576: true; the input reads as it did. -/
def tablestoreMatchesListUptoRow : OpenClaim := { program := "ytnefkkidfhmggaagreat", sum := "cfa5ad040a047c1991bbdb9229689d03f9df088238e309095218409d0fb169e8", func := "disjoint/disjointlaw39.TablestoreMatchesList", spec := "tablestoreMatchesList", inPlace := ["slices.overlaps[int64]", "slices.overlaps[disjoint/api.Row]", "slices.overlaps[*disjoint/btree.node[int64, disjoint/api.Row]]", "slices.overlaps[string]", "slices.overlaps[*disjoint/btree.node[string, int64]]", "internal/bytealg.abigen_runtime_cmpstring"], unfollowed := true, recurses := true, apart := false, narrowed := true }
def TablestoreMatchesListUptoSaid : Prop := tablestoreMatchesListUptoRow.holds Tryz.pinned (OpenSpec.upto tablestoreMatchesListSpec)

/-- 'disjointlaw39.TablestoreLarge', WHERE WHAT IT READS IS OF BULK AT MOST 1048576: true; the input reads as it did. -/
def tablestoreLargeUptoRow : OpenClaim := { program := "ytnefkkidfhmggaagreat", sum := "cfa5ad040a047c1991bbdb9229689d03f9df088238e309095218409d0fb169e8", func := "disjoint/disjointlaw39.TablestoreLarge", spec := "tablestoreLarge", inPlace := ["slices.overlaps[int64]", "slices.overlaps[disjoint/api.Row]", "slices.overlaps[*disjoint/btree.node[int64, disjoint/api.Row]]", "slices.overlaps[string]", "slices.overlaps[*disjoint/btree.node[string, int64]]", "internal/bytealg.abigen_runtime_cmpstring"], unfollowed := true, recurses := true, apart := false, narrowed := true }
def TablestoreLargeUptoSaid : Prop := tablestoreLargeUptoRow.holds Tryz.pinned (OpenSpec.upto tablestoreLargeSpec)

/-- 'disjointlaw39.TablestoreIndexes', WHERE WHAT IT READS IS OF BULK AT MOST 1048576: true; the input reads as it did. -/
def tablestoreIndexesUptoRow : OpenClaim := { program := "ytnefkkidfhmggaagreat", sum := "cfa5ad040a047c1991bbdb9229689d03f9df088238e309095218409d0fb169e8", func := "disjoint/disjointlaw39.TablestoreIndexes", spec := "tablestoreIndexes", inPlace := ["slices.overlaps[int64]", "slices.overlaps[disjoint/api.Row]", "slices.overlaps[*disjoint/btree.node[int64, disjoint/api.Row]]", "slices.overlaps[string]", "slices.overlaps[*disjoint/btree.node[string, int64]]", "internal/bytealg.abigen_runtime_cmpstring"], unfollowed := true, recurses := true, apart := false, narrowed := true }
def TablestoreIndexesUptoSaid : Prop := tablestoreIndexesUptoRow.holds Tryz.pinned (OpenSpec.upto tablestoreIndexesSpec)

/-- 'disjointlaw39.TablestoreSnapshot', WHERE WHAT IT READS IS OF BULK AT MOST 1048576: true; the input reads as it did. -/
def tablestoreSnapshotUptoRow : OpenClaim := { program := "ytnefkkidfhmggaagreat", sum := "cfa5ad040a047c1991bbdb9229689d03f9df088238e309095218409d0fb169e8", func := "disjoint/disjointlaw39.TablestoreSnapshot", spec := "tablestoreSnapshot", inPlace := ["slices.overlaps[int64]", "slices.overlaps[disjoint/api.Row]", "slices.overlaps[*disjoint/btree.node[int64, disjoint/api.Row]]", "slices.overlaps[string]", "slices.overlaps[*disjoint/btree.node[string, int64]]", "internal/bytealg.abigen_runtime_cmpstring"], unfollowed := true, recurses := true, apart := false, narrowed := true }
def TablestoreSnapshotUptoSaid : Prop := tablestoreSnapshotUptoRow.holds Tryz.pinned (OpenSpec.upto tablestoreSnapshotSpec)

/-- 'disjointlaw39.TablestoreNoAliasing', WHERE WHAT IT READS IS OF BULK AT MOST 1048576: true; the input reads as it did. -/
def tablestoreNoAliasingUptoRow : OpenClaim := { program := "ytnefkkidfhmggaagreat", sum := "cfa5ad040a047c1991bbdb9229689d03f9df088238e309095218409d0fb169e8", func := "disjoint/disjointlaw39.TablestoreNoAliasing", spec := "tablestoreNoAliasing", inPlace := ["slices.overlaps[int64]", "slices.overlaps[disjoint/api.Row]", "slices.overlaps[*disjoint/btree.node[int64, disjoint/api.Row]]", "slices.overlaps[string]", "slices.overlaps[*disjoint/btree.node[string, int64]]", "internal/bytealg.abigen_runtime_cmpstring"], unfollowed := true, recurses := true, apart := false, narrowed := true }
def TablestoreNoAliasingUptoSaid : Prop := tablestoreNoAliasingUptoRow.holds Tryz.pinned (OpenSpec.upto tablestoreNoAliasingSpec)

end Rows
end Go.Proofs.YtnefkkidfhmggaaGreat
