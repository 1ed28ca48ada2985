/-
  NARROWER THAN 'FOR EVERY INPUT', by the rows' own cells (each row's printed sentence says how): AggregateResult: loops · AggregateGroups: loops · AggregateLimit: loops · AggregateNoAliasing: loops · AggregateOrder: loops.
  DERIVED. THE GIVEN ROWS OF THIS SEAT. 5 by the template 'for every input the law returns true; each argument reads behind the call as it read before'; 0 by the template 'total and deterministic' (their statements: YtcomoomndgbckaaGreatTotals.lean).
  GIVEN WITH THE SEED: the statements are not yours to turn. If you find one false, say at which input.
  Laid BY PROGRAM, IN A SANDBOX (cutbox-rows.mjs): the forced cells as the released guide's own fill.sh prints them over the translation 3c7c5eeb84f64c0a… (all of the seat's roots in one cut). By AI agents, Wed Nov 11 2026. No macro, syntax, notation, axiom, sorry.
-/
import Derived.Test.YtcomoomndgbckaaGreatChecked
import GoSem.Claim
import GoSem.ClaimJoined
import GoSem.ClaimMapViews
import Derived.JoinedTies
import Derived.KernelRfl
namespace Go.Proofs.YtcomoomndgbckaaGreat
/- THE CELL 'sum', in the pinned program and in every row, IS THE sha256 OF THE DUMP (.gsa) THAT YtcomoomndgbckaaGreatProg.lean LOADS. Nothing in Lean hashes anything: it is a label: what it is worth is what the hold of that sum in a sandbox is worth. -/
noncomputable def Tryz.pinned : Pinned := { name := "ytcomoomndgbckaagreat", sum := "3c7c5eeb84f64c0ae18c6b75d54b6e884e9abdb1cb80cc5982495adce3c5e4b1", checked := Tryz.checked }
namespace Rows
def none {H : Type} : Left H := { results := [], args := [] }

/-- 'disjointlaw47.AggregateResult': WHATEVER THE INPUT: true; the input reads as it did. -/
def aggregateResultSpec : ChangeSpec := { name := "aggregateResult", fn := fun _ => fun
  | [d1, d2, d3] => { results := [.lit (.bool true)], args := [d1, d2, d3] }
  | _ => none }
def aggregateResultRow : OpenClaim := { program := "ytcomoomndgbckaagreat", sum := "3c7c5eeb84f64c0ae18c6b75d54b6e884e9abdb1cb80cc5982495adce3c5e4b1", func := "disjoint/disjointlaw47.AggregateResult", spec := "aggregateResult", inPlace := ["internal/bytealg.abigen_runtime_cmpstring"], unfollowed := true, recurses := true, loops := true, apart := false }
def AggregateResultSaid : Prop := aggregateResultRow.holds Tryz.pinned (OpenSpec.ofChange aggregateResultSpec)

/-- ITS FALSE NEIGHBOUR: 'it returns false'. Refute it at one input. -/
def aggregateResultWrong : ChangeSpec := { name := "aggregateResult", fn := fun _ => fun
  | [d1, d2, d3] => { results := [.lit (.bool false)], args := [d1, d2, d3] }
  | _ => none }
def AggregateResultWrongFalsely : Prop := aggregateResultRow.holds Tryz.pinned (OpenSpec.ofChange aggregateResultWrong)

/-- 'disjointlaw47.AggregateGroups': WHATEVER THE INPUT: true; the input reads as it did. -/
def aggregateGroupsSpec : ChangeSpec := { name := "aggregateGroups", fn := fun _ => fun
  | [d1, d2, d3] => { results := [.lit (.bool true)], args := [d1, d2, d3] }
  | _ => none }
def aggregateGroupsRow : OpenClaim := { program := "ytcomoomndgbckaagreat", sum := "3c7c5eeb84f64c0ae18c6b75d54b6e884e9abdb1cb80cc5982495adce3c5e4b1", func := "disjoint/disjointlaw47.AggregateGroups", spec := "aggregateGroups", inPlace := ["internal/bytealg.abigen_runtime_cmpstring"], unfollowed := true, recurses := true, loops := true, apart := false }
def AggregateGroupsSaid : Prop := aggregateGroupsRow.holds Tryz.pinned (OpenSpec.ofChange aggregateGroupsSpec)

/-- ITS FALSE NEIGHBOUR: 'it returns false'. Refute it at one input. -/
def aggregateGroupsWrong : ChangeSpec := { name := "aggregateGroups", fn := fun _ => fun
  | [d1, d2, d3] => { results := [.lit (.bool false)], args := [d1, d2, d3] }
  | _ => none }
def AggregateGroupsWrongFalsely : Prop := aggregateGroupsRow.holds Tryz.pinned (OpenSpec.ofChange aggregateGroupsWrong)

/-- 'disjointlaw47.AggregateLimit': WHATEVER THE INPUT: true; the input reads as it did. -/
def aggregateLimitSpec : ChangeSpec := { name := "aggregateLimit", fn := fun _ => fun
  | [d1, d2, d3] => { results := [.lit (.bool true)], args := [d1, d2, d3] }
  | _ => none }
def aggregateLimitRow : OpenClaim := { program := "ytcomoomndgbckaagreat", sum := "3c7c5eeb84f64c0ae18c6b75d54b6e884e9abdb1cb80cc5982495adce3c5e4b1", func := "disjoint/disjointlaw47.AggregateLimit", spec := "aggregateLimit", inPlace := ["internal/bytealg.abigen_runtime_cmpstring"], unfollowed := true, recurses := true, loops := true, apart := false }
def AggregateLimitSaid : Prop := aggregateLimitRow.holds Tryz.pinned (OpenSpec.ofChange aggregateLimitSpec)

/-- ITS FALSE NEIGHBOUR: 'it returns false'. Refute it at one input. -/
def aggregateLimitWrong : ChangeSpec := { name := "aggregateLimit", fn := fun _ => fun
  | [d1, d2, d3] => { results := [.lit (.bool false)], args := [d1, d2, d3] }
  | _ => none }
def AggregateLimitWrongFalsely : Prop := aggregateLimitRow.holds Tryz.pinned (OpenSpec.ofChange aggregateLimitWrong)

/-- 'disjointlaw47.AggregateNoAliasing': WHATEVER THE INPUT: true; the input reads as it did. -/
def aggregateNoAliasingSpec : ChangeSpec := { name := "aggregateNoAliasing", fn := fun _ => fun
  | [d1, d2, d3] => { results := [.lit (.bool true)], args := [d1, d2, d3] }
  | _ => none }
def aggregateNoAliasingRow : OpenClaim := { program := "ytcomoomndgbckaagreat", sum := "3c7c5eeb84f64c0ae18c6b75d54b6e884e9abdb1cb80cc5982495adce3c5e4b1", func := "disjoint/disjointlaw47.AggregateNoAliasing", spec := "aggregateNoAliasing", inPlace := ["internal/bytealg.abigen_runtime_cmpstring"], unfollowed := true, recurses := true, loops := true, apart := false }
def AggregateNoAliasingSaid : Prop := aggregateNoAliasingRow.holds Tryz.pinned (OpenSpec.ofChange aggregateNoAliasingSpec)

/-- ITS FALSE NEIGHBOUR: 'it returns false'. Refute it at one input. -/
def aggregateNoAliasingWrong : ChangeSpec := { name := "aggregateNoAliasing", fn := fun _ => fun
  | [d1, d2, d3] => { results := [.lit (.bool false)], args := [d1, d2, d3] }
  | _ => none }
def AggregateNoAliasingWrongFalsely : Prop := aggregateNoAliasingRow.holds Tryz.pinned (OpenSpec.ofChange aggregateNoAliasingWrong)

/-- 'disjointlaw47.AggregateOrder': WHATEVER THE INPUT: true; the input reads as it did. -/
def aggregateOrderSpec : ChangeSpec := { name := "aggregateOrder", fn := fun _ => fun
  | [d1, d2, d3] => { results := [.lit (.bool true)], args := [d1, d2, d3] }
  | _ => none }
def aggregateOrderRow : OpenClaim := { program := "ytcomoomndgbckaagreat", sum := "3c7c5eeb84f64c0ae18c6b75d54b6e884e9abdb1cb80cc5982495adce3c5e4b1", func := "disjoint/disjointlaw47.AggregateOrder", spec := "aggregateOrder", inPlace := ["internal/bytealg.abigen_runtime_cmpstring"], unfollowed := true, recurses := true, loops := true, apart := false }
def AggregateOrderSaid : Prop := aggregateOrderRow.holds Tryz.pinned (OpenSpec.ofChange aggregateOrderSpec)

/-- ITS FALSE NEIGHBOUR: 'it returns false'. Refute it at one input. -/
def aggregateOrderWrong : ChangeSpec := { name := "aggregateOrder", fn := fun _ => fun
  | [d1, d2, d3] => { results := [.lit (.bool false)], args := [d1, d2, d3] }
  | _ => none }
def AggregateOrderWrongFalsely : Prop := aggregateOrderRow.holds Tryz.pinned (OpenSpec.ofChange aggregateOrderWrong)

/- THE SECOND FORM. 'bulk': how many values and letters a reading holds, each counted each time it is reached (what is shared counts as often as it is met; a slice's spare places count too). A statement '..UptoSaid' is the law's where the arguments, and the package variables that the reading takes, are together of bulk at most 1048576: NARROWER than '..Said'. Prove '..Said' where nothing that the law and all that it calls make is longer than what came in: it says more and counts as full. Else prove '..UptoSaid'. A law counts once. -/
mutual
def uptoBulk {H : Type} : DataW H → Nat
  | .lit (.string bytes) => bytes.length + 1
  | .lit _ => 1
  | .nil => 1
  | .ptr d => uptoBulk d + 1
  | .slice elems spare => uptoBulkAll elems + uptoBulkAll spare + 1
  | .agg parts => uptoBulkAll parts + 1
  | .iface _ d => uptoBulk d + 1
  | .map entries => uptoBulkEntries entries + 1
  | .held _ => 1
def uptoBulkAll {H : Type} : List (DataW H) → Nat
  | [] => 0
  | d :: r => uptoBulk d + uptoBulkAll r
def uptoBulkEntries {H : Type} : List (Lit × DataW H) → Nat
  | [] => 0
  | x :: r => uptoBulkEntry x + uptoBulkEntries r
def uptoBulkEntry {H : Type} : Lit × DataW H → Nat
  | (.string bytes, d) => bytes.length + uptoBulk d + 1
  | (_, d) => uptoBulk d + 1
 end
def uptoSmall : (H : Type) → List (DataW H) → Bool := fun _ ds => decide (uptoBulkAll ds ≤ 1048576)
def OpenSpec.upto (s : _root_.Go.ChangeSpec) : _root_.Go.OpenSpec := { _root_.Go.OpenSpec.ofChange s with cond := some uptoSmall }

/-- 'disjointlaw47.AggregateResult', WHERE WHAT IT READS IS OF BULK AT MOST 1048576: true; the input reads as it did. -/
def aggregateResultUptoRow : OpenClaim := { program := "ytcomoomndgbckaagreat", sum := "3c7c5eeb84f64c0ae18c6b75d54b6e884e9abdb1cb80cc5982495adce3c5e4b1", func := "disjoint/disjointlaw47.AggregateResult", spec := "aggregateResult", inPlace := ["internal/bytealg.abigen_runtime_cmpstring"], unfollowed := true, recurses := true, loops := true, apart := false, narrowed := true }
def AggregateResultUptoSaid : Prop := aggregateResultUptoRow.holds Tryz.pinned (OpenSpec.upto aggregateResultSpec)

/-- 'disjointlaw47.AggregateGroups', WHERE WHAT IT READS IS OF BULK AT MOST 1048576: true; the input reads as it did. -/
def aggregateGroupsUptoRow : OpenClaim := { program := "ytcomoomndgbckaagreat", sum := "3c7c5eeb84f64c0ae18c6b75d54b6e884e9abdb1cb80cc5982495adce3c5e4b1", func := "disjoint/disjointlaw47.AggregateGroups", spec := "aggregateGroups", inPlace := ["internal/bytealg.abigen_runtime_cmpstring"], unfollowed := true, recurses := true, loops := true, apart := false, narrowed := true }
def AggregateGroupsUptoSaid : Prop := aggregateGroupsUptoRow.holds Tryz.pinned (OpenSpec.upto aggregateGroupsSpec)

/-- 'disjointlaw47.AggregateLimit', WHERE WHAT IT READS IS OF BULK AT MOST 1048576: true; the input reads as it did. -/
def aggregateLimitUptoRow : OpenClaim := { program := "ytcomoomndgbckaagreat", sum := "3c7c5eeb84f64c0ae18c6b75d54b6e884e9abdb1cb80cc5982495adce3c5e4b1", func := "disjoint/disjointlaw47.AggregateLimit", spec := "aggregateLimit", inPlace := ["internal/bytealg.abigen_runtime_cmpstring"], unfollowed := true, recurses := true, loops := true, apart := false, narrowed := true }
def AggregateLimitUptoSaid : Prop := aggregateLimitUptoRow.holds Tryz.pinned (OpenSpec.upto aggregateLimitSpec)

/-- 'disjointlaw47.AggregateNoAliasing', WHERE WHAT IT READS IS OF BULK AT MOST 1048576: true; the input reads as it did. -/
def aggregateNoAliasingUptoRow : OpenClaim := { program := "ytcomoomndgbckaagreat", sum := "3c7c5eeb84f64c0ae18c6b75d54b6e884e9abdb1cb80cc5982495adce3c5e4b1", func := "disjoint/disjointlaw47.AggregateNoAliasing", spec := "aggregateNoAliasing", inPlace := ["internal/bytealg.abigen_runtime_cmpstring"], unfollowed := true, recurses := true, loops := true, apart := false, narrowed := true }
def AggregateNoAliasingUptoSaid : Prop := aggregateNoAliasingUptoRow.holds Tryz.pinned (OpenSpec.upto aggregateNoAliasingSpec)

/-- 'disjointlaw47.AggregateOrder', WHERE WHAT IT READS IS OF BULK AT MOST 1048576: true; the input reads as it did. -/
def aggregateOrderUptoRow : OpenClaim := { program := "ytcomoomndgbckaagreat", sum := "3c7c5eeb84f64c0ae18c6b75d54b6e884e9abdb1cb80cc5982495adce3c5e4b1", func := "disjoint/disjointlaw47.AggregateOrder", spec := "aggregateOrder", inPlace := ["internal/bytealg.abigen_runtime_cmpstring"], unfollowed := true, recurses := true, loops := true, apart := false, narrowed := true }
def AggregateOrderUptoSaid : Prop := aggregateOrderUptoRow.holds Tryz.pinned (OpenSpec.upto aggregateOrderSpec)

end Rows
end Go.Proofs.YtcomoomndgbckaaGreat
