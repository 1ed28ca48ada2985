/-
  NARROWER THAN 'FOR EVERY INPUT', by the rows' own cells (each row's printed sentence says how): StoreMatchesModel: loops · StoreUndo: loops · StoreTable: loops · StoreBag: loops · StoreIsolated: loops · StoreEncode: loops · StoreDecode: loops · StoreCopy: loops.
  DERIVED. THE GIVEN ROWS OF THIS SEAT. 9 by the template 'for every input the law returns true; each argument reads behind the call as it read before'; 0 by the template 'total and deterministic' (their statements: YtpdlkdoogojboaaGreatTotals.lean).
  GIVEN WITH THE SEED: the statements are not yours to turn. If you find one false, say at which input.
  Laid BY PROGRAM, IN A SANDBOX (cutbox-rows.mjs): the forced cells as the released guide's own fill.sh prints them over the translation 9b4974d0a5992190… (all of the seat's roots in one cut). By AI agents, Wed Nov 11 2026. No macro, syntax, notation, axiom, sorry.
-/
import Derived.Test.YtpdlkdoogojboaaGreatChecked
import GoSem.Claim
import GoSem.ClaimJoined
import GoSem.ClaimMapViews
import Derived.JoinedTies
import Derived.KernelRfl
namespace Go.Proofs.YtpdlkdoogojboaaGreat
/- THE CELL 'sum', in the pinned program and in every row, IS THE sha256 OF THE DUMP (.gsa) THAT YtpdlkdoogojboaaGreatProg.lean LOADS. Nothing in Lean hashes anything: it is a label: what it is worth is what the hold of that sum in a sandbox is worth. -/
noncomputable def Tryz.pinned : Pinned := { name := "ytpdlkdoogojboaagreat", sum := "9b4974d0a59921903f8560c14a4671a9fc086de40cf0b701a41721fc55067152", checked := Tryz.checked }
namespace Rows
def none {H : Type} : Left H := { results := [], args := [] }

/-- 'disjointlaw40.StoreMatchesModel': WHATEVER THE INPUT: true; the input reads as it did. -/
def storeMatchesModelSpec : ChangeSpec := { name := "storeMatchesModel", fn := fun _ => fun
  | [d1, d2] => { results := [.lit (.bool true)], args := [d1, d2] }
  | _ => none }
def storeMatchesModelRow : OpenClaim := { program := "ytpdlkdoogojboaagreat", sum := "9b4974d0a59921903f8560c14a4671a9fc086de40cf0b701a41721fc55067152", func := "disjoint/disjointlaw40.StoreMatchesModel", spec := "storeMatchesModel", inPlace := ["internal/bytealg.abigen_runtime_cmpstring", "slices.overlaps[int64]", "slices.overlaps[disjoint/api.Row]", "slices.overlaps[*disjoint/btree.node[int64, disjoint/api.Row]]", "slices.overlaps[string]", "slices.overlaps[*disjoint/btree.node[string, int64]]"], unfollowed := true, recurses := true, loops := true, apart := false }
def StoreMatchesModelSaid : Prop := storeMatchesModelRow.holds Tryz.pinned (OpenSpec.ofChange storeMatchesModelSpec)

/-- ITS FALSE NEIGHBOUR: 'it returns false'. Refute it at one input. -/
def storeMatchesModelWrong : ChangeSpec := { name := "storeMatchesModel", fn := fun _ => fun
  | [d1, d2] => { results := [.lit (.bool false)], args := [d1, d2] }
  | _ => none }
def StoreMatchesModelWrongFalsely : Prop := storeMatchesModelRow.holds Tryz.pinned (OpenSpec.ofChange storeMatchesModelWrong)

/-- 'disjointlaw40.StoreUndo': WHATEVER THE INPUT: true; the input reads as it did. -/
def storeUndoSpec : ChangeSpec := { name := "storeUndo", fn := fun _ => fun
  | [d1, d2, d3] => { results := [.lit (.bool true)], args := [d1, d2, d3] }
  | _ => none }
def storeUndoRow : OpenClaim := { program := "ytpdlkdoogojboaagreat", sum := "9b4974d0a59921903f8560c14a4671a9fc086de40cf0b701a41721fc55067152", func := "disjoint/disjointlaw40.StoreUndo", spec := "storeUndo", inPlace := ["internal/bytealg.abigen_runtime_cmpstring", "slices.overlaps[int64]", "slices.overlaps[disjoint/api.Row]", "slices.overlaps[*disjoint/btree.node[int64, disjoint/api.Row]]", "slices.overlaps[string]", "slices.overlaps[*disjoint/btree.node[string, int64]]"], unfollowed := true, recurses := true, loops := true, apart := false }
def StoreUndoSaid : Prop := storeUndoRow.holds Tryz.pinned (OpenSpec.ofChange storeUndoSpec)

/-- ITS FALSE NEIGHBOUR: 'it returns false'. Refute it at one input. -/
def storeUndoWrong : ChangeSpec := { name := "storeUndo", fn := fun _ => fun
  | [d1, d2, d3] => { results := [.lit (.bool false)], args := [d1, d2, d3] }
  | _ => none }
def StoreUndoWrongFalsely : Prop := storeUndoRow.holds Tryz.pinned (OpenSpec.ofChange storeUndoWrong)

/-- 'disjointlaw40.StoreTable': WHATEVER THE INPUT: true; the input reads as it did. -/
def storeTableSpec : ChangeSpec := { name := "storeTable", fn := fun _ => fun
  | [d1, d2, d3, d4] => { results := [.lit (.bool true)], args := [d1, d2, d3, d4] }
  | _ => none }
def storeTableRow : OpenClaim := { program := "ytpdlkdoogojboaagreat", sum := "9b4974d0a59921903f8560c14a4671a9fc086de40cf0b701a41721fc55067152", func := "disjoint/disjointlaw40.StoreTable", spec := "storeTable", inPlace := ["internal/bytealg.abigen_runtime_cmpstring", "slices.overlaps[int64]", "slices.overlaps[disjoint/api.Row]", "slices.overlaps[*disjoint/btree.node[int64, disjoint/api.Row]]", "slices.overlaps[string]", "slices.overlaps[*disjoint/btree.node[string, int64]]"], unfollowed := true, recurses := true, loops := true, apart := false }
def StoreTableSaid : Prop := storeTableRow.holds Tryz.pinned (OpenSpec.ofChange storeTableSpec)

/-- ITS FALSE NEIGHBOUR: 'it returns false'. Refute it at one input. -/
def storeTableWrong : ChangeSpec := { name := "storeTable", fn := fun _ => fun
  | [d1, d2, d3, d4] => { results := [.lit (.bool false)], args := [d1, d2, d3, d4] }
  | _ => none }
def StoreTableWrongFalsely : Prop := storeTableRow.holds Tryz.pinned (OpenSpec.ofChange storeTableWrong)

/-- 'disjointlaw40.StoreChanges': WHATEVER THE INPUT: true; the input reads as it did. -/
def storeChangesSpec : ChangeSpec := { name := "storeChanges", fn := fun _ => fun
  | [d1, d2] => { results := [.lit (.bool true)], args := [d1, d2] }
  | _ => none }
def storeChangesRow : OpenClaim := { program := "ytpdlkdoogojboaagreat", sum := "9b4974d0a59921903f8560c14a4671a9fc086de40cf0b701a41721fc55067152", func := "disjoint/disjointlaw40.StoreChanges", spec := "storeChanges", inPlace := ["internal/bytealg.abigen_runtime_cmpstring", "slices.overlaps[int64]", "slices.overlaps[disjoint/api.Row]", "slices.overlaps[*disjoint/btree.node[int64, disjoint/api.Row]]", "slices.overlaps[string]", "slices.overlaps[*disjoint/btree.node[string, int64]]", "internal/bytealg.IndexByteString"], unfollowed := true, recurses := true, apart := false }
def StoreChangesSaid : Prop := storeChangesRow.holds Tryz.pinned (OpenSpec.ofChange storeChangesSpec)

/-- ITS FALSE NEIGHBOUR: 'it returns false'. Refute it at one input. -/
def storeChangesWrong : ChangeSpec := { name := "storeChanges", fn := fun _ => fun
  | [d1, d2] => { results := [.lit (.bool false)], args := [d1, d2] }
  | _ => none }
def StoreChangesWrongFalsely : Prop := storeChangesRow.holds Tryz.pinned (OpenSpec.ofChange storeChangesWrong)

/-- 'disjointlaw40.StoreBag': WHATEVER THE INPUT: true; the input reads as it did. -/
def storeBagSpec : ChangeSpec := { name := "storeBag", fn := fun _ => fun
  | [d1, d2, d3] => { results := [.lit (.bool true)], args := [d1, d2, d3] }
  | _ => none }
def storeBagRow : OpenClaim := { program := "ytpdlkdoogojboaagreat", sum := "9b4974d0a59921903f8560c14a4671a9fc086de40cf0b701a41721fc55067152", func := "disjoint/disjointlaw40.StoreBag", spec := "storeBag", inPlace := ["internal/bytealg.abigen_runtime_cmpstring", "slices.overlaps[int64]", "slices.overlaps[disjoint/api.Row]", "slices.overlaps[*disjoint/btree.node[int64, disjoint/api.Row]]", "slices.overlaps[string]", "slices.overlaps[*disjoint/btree.node[string, int64]]", "slices.overlaps[disjoint/bag.entry]"], unfollowed := true, recurses := true, loops := true, apart := false }
def StoreBagSaid : Prop := storeBagRow.holds Tryz.pinned (OpenSpec.ofChange storeBagSpec)

/-- ITS FALSE NEIGHBOUR: 'it returns false'. Refute it at one input. -/
def storeBagWrong : ChangeSpec := { name := "storeBag", fn := fun _ => fun
  | [d1, d2, d3] => { results := [.lit (.bool false)], args := [d1, d2, d3] }
  | _ => none }
def StoreBagWrongFalsely : Prop := storeBagRow.holds Tryz.pinned (OpenSpec.ofChange storeBagWrong)

/-- 'disjointlaw40.StoreIsolated': WHATEVER THE INPUT: true; the input reads as it did. -/
def storeIsolatedSpec : ChangeSpec := { name := "storeIsolated", fn := fun _ => fun
  | [d1, d2, d3] => { results := [.lit (.bool true)], args := [d1, d2, d3] }
  | _ => none }
def storeIsolatedRow : OpenClaim := { program := "ytpdlkdoogojboaagreat", sum := "9b4974d0a59921903f8560c14a4671a9fc086de40cf0b701a41721fc55067152", func := "disjoint/disjointlaw40.StoreIsolated", spec := "storeIsolated", inPlace := ["internal/bytealg.abigen_runtime_cmpstring", "slices.overlaps[int64]", "slices.overlaps[disjoint/api.Row]", "slices.overlaps[*disjoint/btree.node[int64, disjoint/api.Row]]", "slices.overlaps[string]", "slices.overlaps[*disjoint/btree.node[string, int64]]", "slices.overlaps[disjoint/bag.entry]"], unfollowed := true, recurses := true, loops := true, apart := false }
def StoreIsolatedSaid : Prop := storeIsolatedRow.holds Tryz.pinned (OpenSpec.ofChange storeIsolatedSpec)

/-- ITS FALSE NEIGHBOUR: 'it returns false'. Refute it at one input. -/
def storeIsolatedWrong : ChangeSpec := { name := "storeIsolated", fn := fun _ => fun
  | [d1, d2, d3] => { results := [.lit (.bool false)], args := [d1, d2, d3] }
  | _ => none }
def StoreIsolatedWrongFalsely : Prop := storeIsolatedRow.holds Tryz.pinned (OpenSpec.ofChange storeIsolatedWrong)

/-- 'disjointlaw40.StoreEncode': WHATEVER THE INPUT: true; the input reads as it did. -/
def storeEncodeSpec : ChangeSpec := { name := "storeEncode", fn := fun _ => fun
  | [d1, d2] => { results := [.lit (.bool true)], args := [d1, d2] }
  | _ => none }
def storeEncodeRow : OpenClaim := { program := "ytpdlkdoogojboaagreat", sum := "9b4974d0a59921903f8560c14a4671a9fc086de40cf0b701a41721fc55067152", func := "disjoint/disjointlaw40.StoreEncode", spec := "storeEncode", inPlace := ["internal/bytealg.abigen_runtime_cmpstring", "slices.overlaps[int64]", "slices.overlaps[disjoint/api.Row]", "slices.overlaps[*disjoint/btree.node[int64, disjoint/api.Row]]", "slices.overlaps[string]", "slices.overlaps[*disjoint/btree.node[string, int64]]", "internal/bytealg.IndexByteString"], unfollowed := true, recurses := true, loops := true, apart := false }
def StoreEncodeSaid : Prop := storeEncodeRow.holds Tryz.pinned (OpenSpec.ofChange storeEncodeSpec)

/-- ITS FALSE NEIGHBOUR: 'it returns false'. Refute it at one input. -/
def storeEncodeWrong : ChangeSpec := { name := "storeEncode", fn := fun _ => fun
  | [d1, d2] => { results := [.lit (.bool false)], args := [d1, d2] }
  | _ => none }
def StoreEncodeWrongFalsely : Prop := storeEncodeRow.holds Tryz.pinned (OpenSpec.ofChange storeEncodeWrong)

/-- 'disjointlaw40.StoreDecode': WHATEVER THE INPUT: true; the input reads as it did. -/
def storeDecodeSpec : ChangeSpec := { name := "storeDecode", fn := fun _ => fun
  | [d1, d2] => { results := [.lit (.bool true)], args := [d1, d2] }
  | _ => none }
def storeDecodeRow : OpenClaim := { program := "ytpdlkdoogojboaagreat", sum := "9b4974d0a59921903f8560c14a4671a9fc086de40cf0b701a41721fc55067152", func := "disjoint/disjointlaw40.StoreDecode", spec := "storeDecode", inPlace := ["internal/bytealg.abigen_runtime_cmpstring", "slices.overlaps[int64]", "slices.overlaps[disjoint/api.Row]", "slices.overlaps[*disjoint/btree.node[int64, disjoint/api.Row]]", "slices.overlaps[string]", "slices.overlaps[*disjoint/btree.node[string, int64]]", "internal/bytealg.IndexByteString"], unfollowed := true, recurses := true, loops := true, apart := false }
def StoreDecodeSaid : Prop := storeDecodeRow.holds Tryz.pinned (OpenSpec.ofChange storeDecodeSpec)

/-- ITS FALSE NEIGHBOUR: 'it returns false'. Refute it at one input. -/
def storeDecodeWrong : ChangeSpec := { name := "storeDecode", fn := fun _ => fun
  | [d1, d2] => { results := [.lit (.bool false)], args := [d1, d2] }
  | _ => none }
def StoreDecodeWrongFalsely : Prop := storeDecodeRow.holds Tryz.pinned (OpenSpec.ofChange storeDecodeWrong)

/-- 'disjointlaw40.StoreCopy': WHATEVER THE INPUT: true; the input reads as it did. -/
def storeCopySpec : ChangeSpec := { name := "storeCopy", fn := fun _ => fun
  | [d1, d2, d3] => { results := [.lit (.bool true)], args := [d1, d2, d3] }
  | _ => none }
def storeCopyRow : OpenClaim := { program := "ytpdlkdoogojboaagreat", sum := "9b4974d0a59921903f8560c14a4671a9fc086de40cf0b701a41721fc55067152", func := "disjoint/disjointlaw40.StoreCopy", spec := "storeCopy", inPlace := ["internal/bytealg.abigen_runtime_cmpstring", "slices.overlaps[int64]", "slices.overlaps[disjoint/api.Row]", "slices.overlaps[*disjoint/btree.node[int64, disjoint/api.Row]]", "slices.overlaps[string]", "slices.overlaps[*disjoint/btree.node[string, int64]]", "internal/bytealg.IndexByteString"], unfollowed := true, recurses := true, loops := true, apart := false }
def StoreCopySaid : Prop := storeCopyRow.holds Tryz.pinned (OpenSpec.ofChange storeCopySpec)

/-- ITS FALSE NEIGHBOUR: 'it returns false'. Refute it at one input. -/
def storeCopyWrong : ChangeSpec := { name := "storeCopy", fn := fun _ => fun
  | [d1, d2, d3] => { results := [.lit (.bool false)], args := [d1, d2, d3] }
  | _ => none }
def StoreCopyWrongFalsely : Prop := storeCopyRow.holds Tryz.pinned (OpenSpec.ofChange storeCopyWrong)

/- THE SECOND FORM. 'bulk': how many values and letters a reading holds, each counted each time it is reached (what is shared counts as often as it is met; a slice's spare places count too). A statement '..UptoSaid' is the law's where the arguments, and the package variables that the reading takes, are together of bulk at most 1048576: NARROWER than '..Said'. Prove '..Said' where nothing that the law and all that it calls make is longer than what came in: it says more and counts as full. Else prove '..UptoSaid'. A law counts once. -/
mutual
def uptoBulk {H : Type} : DataW H → Nat
  | .lit (.string bytes) => bytes.length + 1
  | .lit _ => 1
  | .nil => 1
  | .ptr d => uptoBulk d + 1
  | .slice elems spare => uptoBulkAll elems + uptoBulkAll spare + 1
  | .agg parts => uptoBulkAll parts + 1
  | .iface _ d => uptoBulk d + 1
  | .map entries => uptoBulkEntries entries + 1
  | .held _ => 1
def uptoBulkAll {H : Type} : List (DataW H) → Nat
  | [] => 0
  | d :: r => uptoBulk d + uptoBulkAll r
def uptoBulkEntries {H : Type} : List (Lit × DataW H) → Nat
  | [] => 0
  | x :: r => uptoBulkEntry x + uptoBulkEntries r
def uptoBulkEntry {H : Type} : Lit × DataW H → Nat
  | (.string bytes, d) => bytes.length + uptoBulk d + 1
  | (_, d) => uptoBulk d + 1
 end
def uptoSmall : (H : Type) → List (DataW H) → Bool := fun _ ds => decide (uptoBulkAll ds ≤ 1048576)
def OpenSpec.upto (s : _root_.Go.ChangeSpec) : _root_.Go.OpenSpec := { _root_.Go.OpenSpec.ofChange s with cond := some uptoSmall }

/-- 'disjointlaw40.StoreMatchesModel', WHERE WHAT IT READS IS OF BULK AT MOST 1048576: true; the input reads as it did. -/
def storeMatchesModelUptoRow : OpenClaim := { program := "ytpdlkdoogojboaagreat", sum := "9b4974d0a59921903f8560c14a4671a9fc086de40cf0b701a41721fc55067152", func := "disjoint/disjointlaw40.StoreMatchesModel", spec := "storeMatchesModel", inPlace := ["internal/bytealg.abigen_runtime_cmpstring", "slices.overlaps[int64]", "slices.overlaps[disjoint/api.Row]", "slices.overlaps[*disjoint/btree.node[int64, disjoint/api.Row]]", "slices.overlaps[string]", "slices.overlaps[*disjoint/btree.node[string, int64]]"], unfollowed := true, recurses := true, loops := true, apart := false, narrowed := true }
def StoreMatchesModelUptoSaid : Prop := storeMatchesModelUptoRow.holds Tryz.pinned (OpenSpec.upto storeMatchesModelSpec)

/-- 'disjointlaw40.StoreUndo', WHERE WHAT IT READS IS OF BULK AT MOST 1048576: true; the input reads as it did. -/
def storeUndoUptoRow : OpenClaim := { program := "ytpdlkdoogojboaagreat", sum := "9b4974d0a59921903f8560c14a4671a9fc086de40cf0b701a41721fc55067152", func := "disjoint/disjointlaw40.StoreUndo", spec := "storeUndo", inPlace := ["internal/bytealg.abigen_runtime_cmpstring", "slices.overlaps[int64]", "slices.overlaps[disjoint/api.Row]", "slices.overlaps[*disjoint/btree.node[int64, disjoint/api.Row]]", "slices.overlaps[string]", "slices.overlaps[*disjoint/btree.node[string, int64]]"], unfollowed := true, recurses := true, loops := true, apart := false, narrowed := true }
def StoreUndoUptoSaid : Prop := storeUndoUptoRow.holds Tryz.pinned (OpenSpec.upto storeUndoSpec)

/-- 'disjointlaw40.StoreTable', WHERE WHAT IT READS IS OF BULK AT MOST 1048576: true; the input reads as it did. -/
def storeTableUptoRow : OpenClaim := { program := "ytpdlkdoogojboaagreat", sum := "9b4974d0a59921903f8560c14a4671a9fc086de40cf0b701a41721fc55067152", func := "disjoint/disjointlaw40.StoreTable", spec := "storeTable", inPlace := ["internal/bytealg.abigen_runtime_cmpstring", "slices.overlaps[int64]", "slices.overlaps[disjoint/api.Row]", "slices.overlaps[*disjoint/btree.node[int64, disjoint/api.Row]]", "slices.overlaps[string]", "slices.overlaps[*disjoint/btree.node[string, int64]]"], unfollowed := true, recurses := true, loops := true, apart := false, narrowed := true }
def StoreTableUptoSaid : Prop := storeTableUptoRow.holds Tryz.pinned (OpenSpec.upto storeTableSpec)

/-- 'disjointlaw40.StoreChanges', WHERE WHAT IT READS IS OF BULK AT MOST 1048576: true; the input reads as it did. -/
def storeChangesUptoRow : OpenClaim := { program := "ytpdlkdoogojboaagreat", sum := "9b4974d0a59921903f8560c14a4671a9fc086de40cf0b701a41721fc55067152", func := "disjoint/disjointlaw40.StoreChanges", spec := "storeChanges", inPlace := ["internal/bytealg.abigen_runtime_cmpstring", "slices.overlaps[int64]", "slices.overlaps[disjoint/api.Row]", "slices.overlaps[*disjoint/btree.node[int64, disjoint/api.Row]]", "slices.overlaps[string]", "slices.overlaps[*disjoint/btree.node[string, int64]]", "internal/bytealg.IndexByteString"], unfollowed := true, recurses := true, apart := false, narrowed := true }
def StoreChangesUptoSaid : Prop := storeChangesUptoRow.holds Tryz.pinned (OpenSpec.upto storeChangesSpec)

/-- 'disjointlaw40.StoreBag', WHERE WHAT IT READS IS OF BULK AT MOST 1048576: true; the input reads as it did. -/
def storeBagUptoRow : OpenClaim := { program := "ytpdlkdoogojboaagreat", sum := "9b4974d0a59921903f8560c14a4671a9fc086de40cf0b701a41721fc55067152", func := "disjoint/disjointlaw40.StoreBag", spec := "storeBag", inPlace := ["internal/bytealg.abigen_runtime_cmpstring", "slices.overlaps[int64]", "slices.overlaps[disjoint/api.Row]", "slices.overlaps[*disjoint/btree.node[int64, disjoint/api.Row]]", "slices.overlaps[string]", "slices.overlaps[*disjoint/btree.node[string, int64]]", "slices.overlaps[disjoint/bag.entry]"], unfollowed := true, recurses := true, loops := true, apart := false, narrowed := true }
def StoreBagUptoSaid : Prop := storeBagUptoRow.holds Tryz.pinned (OpenSpec.upto storeBagSpec)

/-- 'disjointlaw40.StoreIsolated', WHERE WHAT IT READS IS OF BULK AT MOST 1048576: true; the input reads as it did. -/
def storeIsolatedUptoRow : OpenClaim := { program := "ytpdlkdoogojboaagreat", sum := "9b4974d0a59921903f8560c14a4671a9fc086de40cf0b701a41721fc55067152", func := "disjoint/disjointlaw40.StoreIsolated", spec := "storeIsolated", inPlace := ["internal/bytealg.abigen_runtime_cmpstring", "slices.overlaps[int64]", "slices.overlaps[disjoint/api.Row]", "slices.overlaps[*disjoint/btree.node[int64, disjoint/api.Row]]", "slices.overlaps[string]", "slices.overlaps[*disjoint/btree.node[string, int64]]", "slices.overlaps[disjoint/bag.entry]"], unfollowed := true, recurses := true, loops := true, apart := false, narrowed := true }
def StoreIsolatedUptoSaid : Prop := storeIsolatedUptoRow.holds Tryz.pinned (OpenSpec.upto storeIsolatedSpec)

/-- 'disjointlaw40.StoreEncode', WHERE WHAT IT READS IS OF BULK AT MOST 1048576: true; the input reads as it did. -/
def storeEncodeUptoRow : OpenClaim := { program := "ytpdlkdoogojboaagreat", sum := "9b4974d0a59921903f8560c14a4671a9fc086de40cf0b701a41721fc55067152", func := "disjoint/disjointlaw40.StoreEncode", spec := "storeEncode", inPlace := ["internal/bytealg.abigen_runtime_cmpstring", "slices.overlaps[int64]", "slices.overlaps[disjoint/api.Row]", "slices.overlaps[*disjoint/btree.node[int64, disjoint/api.Row]]", "slices.overlaps[string]", "slices.overlaps[*disjoint/btree.node[string, int64]]", "internal/bytealg.IndexByteString"], unfollowed := true, recurses := true, loops := true, apart := false, narrowed := true }
def StoreEncodeUptoSaid : Prop := storeEncodeUptoRow.holds Tryz.pinned (OpenSpec.upto storeEncodeSpec)

/-- 'disjointlaw40.StoreDecode', WHERE WHAT IT READS IS OF BULK AT MOST 1048576: true; the input reads as it did. -/
def storeDecodeUptoRow : OpenClaim := { program := "ytpdlkdoogojboaagreat", sum := "9b4974d0a59921903f8560c14a4671a9fc086de40cf0b701a41721fc55067152", func := "disjoint/disjointlaw40.StoreDecode", spec := "storeDecode", inPlace := ["internal/bytealg.abigen_runtime_cmpstring", "slices.overlaps[int64]", "slices.overlaps[disjoint/api.Row]", "slices.overlaps[*disjoint/btree.node[int64, disjoint/api.Row]]", "slices.overlaps[string]", "slices.overlaps[*disjoint/btree.node[string, int64]]", "internal/bytealg.IndexByteString"], unfollowed := true, recurses := true, loops := true, apart := false, narrowed := true }
def StoreDecodeUptoSaid : Prop := storeDecodeUptoRow.holds Tryz.pinned (OpenSpec.upto storeDecodeSpec)

/-- 'disjointlaw40.StoreCopy', WHERE WHAT IT READS IS OF BULK AT MOST 1048576: true; the input reads as it did. -/
def storeCopyUptoRow : OpenClaim := { program := "ytpdlkdoogojboaagreat", sum := "9b4974d0a59921903f8560c14a4671a9fc086de40cf0b701a41721fc55067152", func := "disjoint/disjointlaw40.StoreCopy", spec := "storeCopy", inPlace := ["internal/bytealg.abigen_runtime_cmpstring", "slices.overlaps[int64]", "slices.overlaps[disjoint/api.Row]", "slices.overlaps[*disjoint/btree.node[int64, disjoint/api.Row]]", "slices.overlaps[string]", "slices.overlaps[*disjoint/btree.node[string, int64]]", "internal/bytealg.IndexByteString"], unfollowed := true, recurses := true, loops := true, apart := false, narrowed := true }
def StoreCopyUptoSaid : Prop := storeCopyUptoRow.holds Tryz.pinned (OpenSpec.upto storeCopySpec)

end Rows
end Go.Proofs.YtpdlkdoogojboaaGreat
