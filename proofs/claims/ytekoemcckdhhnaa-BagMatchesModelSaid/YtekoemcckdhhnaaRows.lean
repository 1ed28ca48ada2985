/-
  No cell of these rows narrows 'for every input' (looked for: loops, veiled, ifaces, maps, wideKeys, modest, calm, conditions, laid).
  DERIVED. THE GIVEN ROWS OF THIS SEAT. 7 by the template 'for every input the law returns true; each argument reads behind the call as it read before'; 0 by the template 'total and deterministic' (their statements: YtekoemcckdhhnaaTotals.lean).
  GIVEN WITH THE SEED: the statements are not yours to turn. If you find one false, say at which input.
  Laid BY PROGRAM, IN A SANDBOX (cutbox-rows.mjs): the forced cells as the released guide's own fill.sh prints them over the translation 97b871643698984e… (all of the seat's roots in one cut). By AI agents, Wed Nov 11 2026. No macro, syntax, notation, axiom, sorry.
-/
import Derived.Test.YtekoemcckdhhnaaChecked
import GoSem.Claim
import GoSem.ClaimJoined
import GoSem.ClaimMapViews
import Derived.JoinedTies
import Derived.KernelRfl
namespace Go.Proofs.Ytekoemcckdhhnaa
/- THE CELL 'sum', in the pinned program and in every row, IS THE sha256 OF THE DUMP (.gsa) THAT YtekoemcckdhhnaaProg.lean LOADS. Nothing in Lean hashes anything: it is a label: what it is worth is what the hold of that sum in a sandbox is worth. -/
noncomputable def Try.pinned : Pinned := { name := "ytekoemcckdhhnaa", sum := "97b871643698984e90b8caabfc0fb454f0e5b4cb628da95ab7454cde3a7976ad", checked := Try.checked }
namespace Rows
def none {H : Type} : Left H := { results := [], args := [] }

/-- 'disjointlaw08.BagMinus': WHATEVER THE INPUT: true; the input reads as it did. -/
def bagMinusSpec : ChangeSpec := { name := "bagMinus", fn := fun _ => fun
  | [d1, d2] => { results := [.lit (.bool true)], args := [d1, d2] }
  | _ => none }
def bagMinusRow : OpenClaim := { program := "ytekoemcckdhhnaa", sum := "97b871643698984e90b8caabfc0fb454f0e5b4cb628da95ab7454cde3a7976ad", func := "disjoint/disjointlaw08.BagMinus", spec := "bagMinus", inPlace := ["internal/bytealg.abigen_runtime_cmpstring", "slices.overlaps[disjoint/bag.entry]"], unfollowed := true, recurses := true, apart := false }
def BagMinusSaid : Prop := bagMinusRow.holds Try.pinned (OpenSpec.ofChange bagMinusSpec)

/-- ITS FALSE NEIGHBOUR: 'it returns false'. Refute it at one input. -/
def bagMinusWrong : ChangeSpec := { name := "bagMinus", fn := fun _ => fun
  | [d1, d2] => { results := [.lit (.bool false)], args := [d1, d2] }
  | _ => none }
def BagMinusWrongFalsely : Prop := bagMinusRow.holds Try.pinned (OpenSpec.ofChange bagMinusWrong)

/-- 'disjointlaw08.BagIsolated': WHATEVER THE INPUT: true; the input reads as it did. -/
def bagIsolatedSpec : ChangeSpec := { name := "bagIsolated", fn := fun _ => fun
  | [d1, d2] => { results := [.lit (.bool true)], args := [d1, d2] }
  | _ => none }
def bagIsolatedRow : OpenClaim := { program := "ytekoemcckdhhnaa", sum := "97b871643698984e90b8caabfc0fb454f0e5b4cb628da95ab7454cde3a7976ad", func := "disjoint/disjointlaw08.BagIsolated", spec := "bagIsolated", inPlace := ["internal/bytealg.abigen_runtime_cmpstring", "slices.overlaps[disjoint/bag.entry]"], unfollowed := true, recurses := true, apart := false }
def BagIsolatedSaid : Prop := bagIsolatedRow.holds Try.pinned (OpenSpec.ofChange bagIsolatedSpec)

/-- ITS FALSE NEIGHBOUR: 'it returns false'. Refute it at one input. -/
def bagIsolatedWrong : ChangeSpec := { name := "bagIsolated", fn := fun _ => fun
  | [d1, d2] => { results := [.lit (.bool false)], args := [d1, d2] }
  | _ => none }
def BagIsolatedWrongFalsely : Prop := bagIsolatedRow.holds Try.pinned (OpenSpec.ofChange bagIsolatedWrong)

/-- 'disjointlaw08.BagNew': WHATEVER THE INPUT: true; the input reads as it did. -/
def bagNewSpec : ChangeSpec := { name := "bagNew", fn := fun _ => fun
  | [d] => { results := [.lit (.bool true)], args := [d] }
  | _ => none }
def bagNewRow : OpenClaim := { program := "ytekoemcckdhhnaa", sum := "97b871643698984e90b8caabfc0fb454f0e5b4cb628da95ab7454cde3a7976ad", func := "disjoint/disjointlaw08.BagNew", spec := "bagNew", inPlace := ["internal/bytealg.abigen_runtime_cmpstring", "slices.overlaps[disjoint/bag.entry]"], unfollowed := true, recurses := true, apart := false }
def BagNewSaid : Prop := bagNewRow.holds Try.pinned (OpenSpec.ofChange bagNewSpec)

/-- ITS FALSE NEIGHBOUR: 'it returns false'. Refute it at one input. -/
def bagNewWrong : ChangeSpec := { name := "bagNew", fn := fun _ => fun
  | [d] => { results := [.lit (.bool false)], args := [d] }
  | _ => none }
def BagNewWrongFalsely : Prop := bagNewRow.holds Try.pinned (OpenSpec.ofChange bagNewWrong)

/-- 'disjointlaw08.BagEqual': WHATEVER THE INPUT: true; the input reads as it did. -/
def bagEqualSpec : ChangeSpec := { name := "bagEqual", fn := fun _ => fun
  | [d1, d2] => { results := [.lit (.bool true)], args := [d1, d2] }
  | _ => none }
def bagEqualRow : OpenClaim := { program := "ytekoemcckdhhnaa", sum := "97b871643698984e90b8caabfc0fb454f0e5b4cb628da95ab7454cde3a7976ad", func := "disjoint/disjointlaw08.BagEqual", spec := "bagEqual", inPlace := ["internal/bytealg.abigen_runtime_cmpstring", "slices.overlaps[disjoint/bag.entry]"], unfollowed := true, recurses := true, apart := false }
def BagEqualSaid : Prop := bagEqualRow.holds Try.pinned (OpenSpec.ofChange bagEqualSpec)

/-- ITS FALSE NEIGHBOUR: 'it returns false'. Refute it at one input. -/
def bagEqualWrong : ChangeSpec := { name := "bagEqual", fn := fun _ => fun
  | [d1, d2] => { results := [.lit (.bool false)], args := [d1, d2] }
  | _ => none }
def BagEqualWrongFalsely : Prop := bagEqualRow.holds Try.pinned (OpenSpec.ofChange bagEqualWrong)

/-- 'disjointlaw08.BagMatchesModel': WHATEVER THE INPUT: true; the input reads as it did. -/
def bagMatchesModelSpec : ChangeSpec := { name := "bagMatchesModel", fn := fun _ => fun
  | [d1, d2] => { results := [.lit (.bool true)], args := [d1, d2] }
  | _ => none }
def bagMatchesModelRow : OpenClaim := { program := "ytekoemcckdhhnaa", sum := "97b871643698984e90b8caabfc0fb454f0e5b4cb628da95ab7454cde3a7976ad", func := "disjoint/disjointlaw08.BagMatchesModel", spec := "bagMatchesModel", inPlace := ["internal/bytealg.abigen_runtime_cmpstring", "slices.overlaps[disjoint/bag.entry]"], unfollowed := true, recurses := true, apart := false }
def BagMatchesModelSaid : Prop := bagMatchesModelRow.holds Try.pinned (OpenSpec.ofChange bagMatchesModelSpec)

/-- ITS FALSE NEIGHBOUR: 'it returns false'. Refute it at one input. -/
def bagMatchesModelWrong : ChangeSpec := { name := "bagMatchesModel", fn := fun _ => fun
  | [d1, d2] => { results := [.lit (.bool false)], args := [d1, d2] }
  | _ => none }
def BagMatchesModelWrongFalsely : Prop := bagMatchesModelRow.holds Try.pinned (OpenSpec.ofChange bagMatchesModelWrong)

/-- 'disjointlaw08.BagRemove': WHATEVER THE INPUT: true; the input reads as it did. -/
def bagRemoveSpec : ChangeSpec := { name := "bagRemove", fn := fun _ => fun
  | [d1, d2] => { results := [.lit (.bool true)], args := [d1, d2] }
  | _ => none }
def bagRemoveRow : OpenClaim := { program := "ytekoemcckdhhnaa", sum := "97b871643698984e90b8caabfc0fb454f0e5b4cb628da95ab7454cde3a7976ad", func := "disjoint/disjointlaw08.BagRemove", spec := "bagRemove", inPlace := ["internal/bytealg.abigen_runtime_cmpstring", "slices.overlaps[disjoint/bag.entry]"], unfollowed := true, recurses := true, apart := false }
def BagRemoveSaid : Prop := bagRemoveRow.holds Try.pinned (OpenSpec.ofChange bagRemoveSpec)

/-- ITS FALSE NEIGHBOUR: 'it returns false'. Refute it at one input. -/
def bagRemoveWrong : ChangeSpec := { name := "bagRemove", fn := fun _ => fun
  | [d1, d2] => { results := [.lit (.bool false)], args := [d1, d2] }
  | _ => none }
def BagRemoveWrongFalsely : Prop := bagRemoveRow.holds Try.pinned (OpenSpec.ofChange bagRemoveWrong)

/-- 'disjointlaw08.BagDifference': WHATEVER THE INPUT: true; the input reads as it did. -/
def bagDifferenceSpec : ChangeSpec := { name := "bagDifference", fn := fun _ => fun
  | [d1, d2] => { results := [.lit (.bool true)], args := [d1, d2] }
  | _ => none }
def bagDifferenceRow : OpenClaim := { program := "ytekoemcckdhhnaa", sum := "97b871643698984e90b8caabfc0fb454f0e5b4cb628da95ab7454cde3a7976ad", func := "disjoint/disjointlaw08.BagDifference", spec := "bagDifference", inPlace := ["internal/bytealg.abigen_runtime_cmpstring", "slices.overlaps[disjoint/bag.entry]"], unfollowed := true, recurses := true, apart := false }
def BagDifferenceSaid : Prop := bagDifferenceRow.holds Try.pinned (OpenSpec.ofChange bagDifferenceSpec)

/-- ITS FALSE NEIGHBOUR: 'it returns false'. Refute it at one input. -/
def bagDifferenceWrong : ChangeSpec := { name := "bagDifference", fn := fun _ => fun
  | [d1, d2] => { results := [.lit (.bool false)], args := [d1, d2] }
  | _ => none }
def BagDifferenceWrongFalsely : Prop := bagDifferenceRow.holds Try.pinned (OpenSpec.ofChange bagDifferenceWrong)

/- THE SECOND FORM. 'bulk': how many values and letters a reading holds, each counted each time it is reached (what is shared counts as often as it is met; a slice's spare places count too). A statement '..UptoSaid' is the law's where the arguments, and the package variables that the reading takes, are together of bulk at most 1048576: NARROWER than '..Said'. Prove '..Said' where nothing that the law and all that it calls make is longer than what came in: it says more and counts as full. Else prove '..UptoSaid'. A law counts once. -/
mutual
def uptoBulk {H : Type} : DataW H → Nat
  | .lit (.string bytes) => bytes.length + 1
  | .lit _ => 1
  | .nil => 1
  | .ptr d => uptoBulk d + 1
  | .slice elems spare => uptoBulkAll elems + uptoBulkAll spare + 1
  | .agg parts => uptoBulkAll parts + 1
  | .iface _ d => uptoBulk d + 1
  | .map entries => uptoBulkEntries entries + 1
  | .held _ => 1
def uptoBulkAll {H : Type} : List (DataW H) → Nat
  | [] => 0
  | d :: r => uptoBulk d + uptoBulkAll r
def uptoBulkEntries {H : Type} : List (Lit × DataW H) → Nat
  | [] => 0
  | x :: r => uptoBulkEntry x + uptoBulkEntries r
def uptoBulkEntry {H : Type} : Lit × DataW H → Nat
  | (.string bytes, d) => bytes.length + uptoBulk d + 1
  | (_, d) => uptoBulk d + 1
 end
def uptoSmall : (H : Type) → List (DataW H) → Bool := fun _ ds => decide (uptoBulkAll ds ≤ 1048576)
def OpenSpec.upto (s : _root_.Go.ChangeSpec) : _root_.Go.OpenSpec := { _root_.Go.OpenSpec.ofChange s with cond := some uptoSmall }

/-- 'disjointlaw08.BagMinus', WHERE WHAT IT READS IS OF BULK AT MOST 1048576: true; the input reads as it did. -/
def bagMinusUptoRow : OpenClaim := { program := "ytekoemcckdhhnaa", sum := "97b871643698984e90b8caabfc0fb454f0e5b4cb628da95ab7454cde3a7976ad", func := "disjoint/disjointlaw08.BagMinus", spec := "bagMinus", inPlace := ["internal/bytealg.abigen_runtime_cmpstring", "slices.overlaps[disjoint/bag.entry]"], unfollowed := true, recurses := true, apart := false, narrowed := true }
def BagMinusUptoSaid : Prop := bagMinusUptoRow.holds Try.pinned (OpenSpec.upto bagMinusSpec)

/-- 'disjointlaw08.BagIsolated', WHERE WHAT IT READS IS OF BULK AT MOST 1048576: true; the input reads as it did. -/
def bagIsolatedUptoRow : OpenClaim := { program := "ytekoemcckdhhnaa", sum := "97b871643698984e90b8caabfc0fb454f0e5b4cb628da95ab7454cde3a7976ad", func := "disjoint/disjointlaw08.BagIsolated", spec := "bagIsolated", inPlace := ["internal/bytealg.abigen_runtime_cmpstring", "slices.overlaps[disjoint/bag.entry]"], unfollowed := true, recurses := true, apart := false, narrowed := true }
def BagIsolatedUptoSaid : Prop := bagIsolatedUptoRow.holds Try.pinned (OpenSpec.upto bagIsolatedSpec)

/-- 'disjointlaw08.BagNew', WHERE WHAT IT READS IS OF BULK AT MOST 1048576: true; the input reads as it did. -/
def bagNewUptoRow : OpenClaim := { program := "ytekoemcckdhhnaa", sum := "97b871643698984e90b8caabfc0fb454f0e5b4cb628da95ab7454cde3a7976ad", func := "disjoint/disjointlaw08.BagNew", spec := "bagNew", inPlace := ["internal/bytealg.abigen_runtime_cmpstring", "slices.overlaps[disjoint/bag.entry]"], unfollowed := true, recurses := true, apart := false, narrowed := true }
def BagNewUptoSaid : Prop := bagNewUptoRow.holds Try.pinned (OpenSpec.upto bagNewSpec)

/-- 'disjointlaw08.BagEqual', WHERE WHAT IT READS IS OF BULK AT MOST 1048576: true; the input reads as it did. -/
def bagEqualUptoRow : OpenClaim := { program := "ytekoemcckdhhnaa", sum := "97b871643698984e90b8caabfc0fb454f0e5b4cb628da95ab7454cde3a7976ad", func := "disjoint/disjointlaw08.BagEqual", spec := "bagEqual", inPlace := ["internal/bytealg.abigen_runtime_cmpstring", "slices.overlaps[disjoint/bag.entry]"], unfollowed := true, recurses := true, apart := false, narrowed := true }
def BagEqualUptoSaid : Prop := bagEqualUptoRow.holds Try.pinned (OpenSpec.upto bagEqualSpec)

/-- 'disjointlaw08.BagMatchesModel', WHERE WHAT IT READS IS OF BULK AT MOST 1048576: true; the input reads as it did. -/
def bagMatchesModelUptoRow : OpenClaim := { program := "ytekoemcckdhhnaa", sum := "97b871643698984e90b8caabfc0fb454f0e5b4cb628da95ab7454cde3a7976ad", func := "disjoint/disjointlaw08.BagMatchesModel", spec := "bagMatchesModel", inPlace := ["internal/bytealg.abigen_runtime_cmpstring", "slices.overlaps[disjoint/bag.entry]"], unfollowed := true, recurses := true, apart := false, narrowed := true }
def BagMatchesModelUptoSaid : Prop := bagMatchesModelUptoRow.holds Try.pinned (OpenSpec.upto bagMatchesModelSpec)

/-- 'disjointlaw08.BagRemove', WHERE WHAT IT READS IS OF BULK AT MOST 1048576: true; the input reads as it did. -/
def bagRemoveUptoRow : OpenClaim := { program := "ytekoemcckdhhnaa", sum := "97b871643698984e90b8caabfc0fb454f0e5b4cb628da95ab7454cde3a7976ad", func := "disjoint/disjointlaw08.BagRemove", spec := "bagRemove", inPlace := ["internal/bytealg.abigen_runtime_cmpstring", "slices.overlaps[disjoint/bag.entry]"], unfollowed := true, recurses := true, apart := false, narrowed := true }
def BagRemoveUptoSaid : Prop := bagRemoveUptoRow.holds Try.pinned (OpenSpec.upto bagRemoveSpec)

/-- 'disjointlaw08.BagDifference', WHERE WHAT IT READS IS OF BULK AT MOST 1048576: true; the input reads as it did. -/
def bagDifferenceUptoRow : OpenClaim := { program := "ytekoemcckdhhnaa", sum := "97b871643698984e90b8caabfc0fb454f0e5b4cb628da95ab7454cde3a7976ad", func := "disjoint/disjointlaw08.BagDifference", spec := "bagDifference", inPlace := ["internal/bytealg.abigen_runtime_cmpstring", "slices.overlaps[disjoint/bag.entry]"], unfollowed := true, recurses := true, apart := false, narrowed := true }
def BagDifferenceUptoSaid : Prop := bagDifferenceUptoRow.holds Try.pinned (OpenSpec.upto bagDifferenceSpec)

end Rows
end Go.Proofs.Ytekoemcckdhhnaa
