/-
  No cell of these rows narrows 'for every input' (looked for: loops, veiled, ifaces, maps, wideKeys, modest, calm, conditions, laid).
  DERIVED. THE GIVEN ROWS OF THIS SEAT. 6 by the template 'for every input the law returns true; each argument reads behind the call as it read before'; 0 by the template 'total and deterministic' (their statements: YtmabbdkckdpeoaaTotals.lean).
  GIVEN WITH THE SEED: the statements are not yours to turn. If you find one false, say at which input.
  Laid BY PROGRAM, IN A SANDBOX (cutbox-rows.mjs): the forced cells as the released guide's own fill.sh prints them over the translation d2c63a23cee99ccb… (all of the seat's roots in one cut). By AI agents, Wed Nov 11 2026. No macro, syntax, notation, axiom, sorry.
-/
import Derived.Test.YtmabbdkckdpeoaaChecked
import GoSem.Claim
import GoSem.ClaimJoined
import GoSem.ClaimMapViews
import Derived.JoinedTies
import Derived.KernelRfl
namespace Go.Proofs.Ytmabbdkckdpeoaa
/- THE CELL 'sum', in the pinned program and in every row, IS THE sha256 OF THE DUMP (.gsa) THAT YtmabbdkckdpeoaaProg.lean LOADS. Nothing in Lean hashes anything: it is a label: what it is worth is what the hold of that sum in a sandbox is worth. -/
noncomputable def Try.pinned : Pinned := { name := "ytmabbdkckdpeoaa", sum := "d2c63a23cee99ccbcde5ade44d53e5281760b7f9b9482b1d4e58c9dba42ed65a", checked := Try.checked }
namespace Rows
def none {H : Type} : Left H := { results := [], args := [] }

/-- 'samaritanlaw19.StorageSplitWrites': WHATEVER THE INPUT: true; the input reads as it did. -/
def storageSplitWritesSpec : ChangeSpec := { name := "storageSplitWrites", fn := fun _ => fun
  | [d1, d2] => { results := [.lit (.bool true)], args := [d1, d2] }
  | _ => none }
def storageSplitWritesRow : OpenClaim := { program := "ytmabbdkckdpeoaa", sum := "d2c63a23cee99ccbcde5ade44d53e5281760b7f9b9482b1d4e58c9dba42ed65a", func := "samaritan/samaritanlaw19.StorageSplitWrites", spec := "storageSplitWrites", apart := false }
def StorageSplitWritesSaid : Prop := storageSplitWritesRow.holds Try.pinned (OpenSpec.ofChange storageSplitWritesSpec)

/-- ITS FALSE NEIGHBOUR: 'it returns false'. Refute it at one input. -/
def storageSplitWritesWrong : ChangeSpec := { name := "storageSplitWrites", fn := fun _ => fun
  | [d1, d2] => { results := [.lit (.bool false)], args := [d1, d2] }
  | _ => none }
def StorageSplitWritesWrongFalsely : Prop := storageSplitWritesRow.holds Try.pinned (OpenSpec.ofChange storageSplitWritesWrong)

/-- 'samaritanlaw19.StorageNoAliasing': WHATEVER THE INPUT: true; the input reads as it did. -/
def storageNoAliasingSpec : ChangeSpec := { name := "storageNoAliasing", fn := fun _ => fun
  | [d] => { results := [.lit (.bool true)], args := [d] }
  | _ => none }
def storageNoAliasingRow : OpenClaim := { program := "ytmabbdkckdpeoaa", sum := "d2c63a23cee99ccbcde5ade44d53e5281760b7f9b9482b1d4e58c9dba42ed65a", func := "samaritan/samaritanlaw19.StorageNoAliasing", spec := "storageNoAliasing", apart := false }
def StorageNoAliasingSaid : Prop := storageNoAliasingRow.holds Try.pinned (OpenSpec.ofChange storageNoAliasingSpec)

/-- ITS FALSE NEIGHBOUR: 'it returns false'. Refute it at one input. -/
def storageNoAliasingWrong : ChangeSpec := { name := "storageNoAliasing", fn := fun _ => fun
  | [d] => { results := [.lit (.bool false)], args := [d] }
  | _ => none }
def StorageNoAliasingWrongFalsely : Prop := storageNoAliasingRow.holds Try.pinned (OpenSpec.ofChange storageNoAliasingWrong)

/-- 'samaritanlaw19.StorageMatchesModel': WHATEVER THE INPUT: true; the input reads as it did. -/
def storageMatchesModelSpec : ChangeSpec := { name := "storageMatchesModel", fn := fun _ => fun
  | [d] => { results := [.lit (.bool true)], args := [d] }
  | _ => none }
def storageMatchesModelRow : OpenClaim := { program := "ytmabbdkckdpeoaa", sum := "d2c63a23cee99ccbcde5ade44d53e5281760b7f9b9482b1d4e58c9dba42ed65a", func := "samaritan/samaritanlaw19.StorageMatchesModel", spec := "storageMatchesModel", apart := false }
def StorageMatchesModelSaid : Prop := storageMatchesModelRow.holds Try.pinned (OpenSpec.ofChange storageMatchesModelSpec)

/-- ITS FALSE NEIGHBOUR: 'it returns false'. Refute it at one input. -/
def storageMatchesModelWrong : ChangeSpec := { name := "storageMatchesModel", fn := fun _ => fun
  | [d] => { results := [.lit (.bool false)], args := [d] }
  | _ => none }
def StorageMatchesModelWrongFalsely : Prop := storageMatchesModelRow.holds Try.pinned (OpenSpec.ofChange storageMatchesModelWrong)

/-- 'samaritanlaw19.StorageDurability': WHATEVER THE INPUT: true; the input reads as it did. -/
def storageDurabilitySpec : ChangeSpec := { name := "storageDurability", fn := fun _ => fun
  | [d1, d2, d3] => { results := [.lit (.bool true)], args := [d1, d2, d3] }
  | _ => none }
def storageDurabilityRow : OpenClaim := { program := "ytmabbdkckdpeoaa", sum := "d2c63a23cee99ccbcde5ade44d53e5281760b7f9b9482b1d4e58c9dba42ed65a", func := "samaritan/samaritanlaw19.StorageDurability", spec := "storageDurability", apart := false }
def StorageDurabilitySaid : Prop := storageDurabilityRow.holds Try.pinned (OpenSpec.ofChange storageDurabilitySpec)

/-- ITS FALSE NEIGHBOUR: 'it returns false'. Refute it at one input. -/
def storageDurabilityWrong : ChangeSpec := { name := "storageDurability", fn := fun _ => fun
  | [d1, d2, d3] => { results := [.lit (.bool false)], args := [d1, d2, d3] }
  | _ => none }
def StorageDurabilityWrongFalsely : Prop := storageDurabilityRow.holds Try.pinned (OpenSpec.ofChange storageDurabilityWrong)

/-- 'samaritanlaw19.StorageSyncedData': WHATEVER THE INPUT: true; the input reads as it did. -/
def storageSyncedDataSpec : ChangeSpec := { name := "storageSyncedData", fn := fun _ => fun
  | [d1, d2, d3] => { results := [.lit (.bool true)], args := [d1, d2, d3] }
  | _ => none }
def storageSyncedDataRow : OpenClaim := { program := "ytmabbdkckdpeoaa", sum := "d2c63a23cee99ccbcde5ade44d53e5281760b7f9b9482b1d4e58c9dba42ed65a", func := "samaritan/samaritanlaw19.StorageSyncedData", spec := "storageSyncedData", apart := false }
def StorageSyncedDataSaid : Prop := storageSyncedDataRow.holds Try.pinned (OpenSpec.ofChange storageSyncedDataSpec)

/-- ITS FALSE NEIGHBOUR: 'it returns false'. Refute it at one input. -/
def storageSyncedDataWrong : ChangeSpec := { name := "storageSyncedData", fn := fun _ => fun
  | [d1, d2, d3] => { results := [.lit (.bool false)], args := [d1, d2, d3] }
  | _ => none }
def StorageSyncedDataWrongFalsely : Prop := storageSyncedDataRow.holds Try.pinned (OpenSpec.ofChange storageSyncedDataWrong)

/-- 'samaritanlaw19.StoragePoweredOff': WHATEVER THE INPUT: true; the input reads as it did. -/
def storagePoweredOffSpec : ChangeSpec := { name := "storagePoweredOff", fn := fun _ => fun
  | [d1, d2] => { results := [.lit (.bool true)], args := [d1, d2] }
  | _ => none }
def storagePoweredOffRow : OpenClaim := { program := "ytmabbdkckdpeoaa", sum := "d2c63a23cee99ccbcde5ade44d53e5281760b7f9b9482b1d4e58c9dba42ed65a", func := "samaritan/samaritanlaw19.StoragePoweredOff", spec := "storagePoweredOff", apart := false }
def StoragePoweredOffSaid : Prop := storagePoweredOffRow.holds Try.pinned (OpenSpec.ofChange storagePoweredOffSpec)

/-- ITS FALSE NEIGHBOUR: 'it returns false'. Refute it at one input. -/
def storagePoweredOffWrong : ChangeSpec := { name := "storagePoweredOff", fn := fun _ => fun
  | [d1, d2] => { results := [.lit (.bool false)], args := [d1, d2] }
  | _ => none }
def StoragePoweredOffWrongFalsely : Prop := storagePoweredOffRow.holds Try.pinned (OpenSpec.ofChange storagePoweredOffWrong)

/- THE SECOND FORM. 'bulk': how many values and letters a reading holds, each counted each time it is reached (what is shared counts as often as it is met; a slice's spare places count too). A statement '..UptoSaid' is the law's where the arguments, and the package variables that the reading takes, are together of bulk at most 1048576: NARROWER than '..Said'. Prove '..Said' where nothing that the law and all that it calls make is longer than what came in: it says more and counts as full. Else prove '..UptoSaid'. A law counts once. -/
mutual
def uptoBulk {H : Type} : DataW H → Nat
  | .lit (.string bytes) => bytes.length + 1
  | .lit _ => 1
  | .nil => 1
  | .ptr d => uptoBulk d + 1
  | .slice elems spare => uptoBulkAll elems + uptoBulkAll spare + 1
  | .agg parts => uptoBulkAll parts + 1
  | .iface _ d => uptoBulk d + 1
  | .map entries => uptoBulkEntries entries + 1
  | .held _ => 1
def uptoBulkAll {H : Type} : List (DataW H) → Nat
  | [] => 0
  | d :: r => uptoBulk d + uptoBulkAll r
def uptoBulkEntries {H : Type} : List (Lit × DataW H) → Nat
  | [] => 0
  | x :: r => uptoBulkEntry x + uptoBulkEntries r
def uptoBulkEntry {H : Type} : Lit × DataW H → Nat
  | (.string bytes, d) => bytes.length + uptoBulk d + 1
  | (_, d) => uptoBulk d + 1
 end
def uptoSmall : (H : Type) → List (DataW H) → Bool := fun _ ds => decide (uptoBulkAll ds ≤ 1048576)
def OpenSpec.upto (s : _root_.Go.ChangeSpec) : _root_.Go.OpenSpec := { _root_.Go.OpenSpec.ofChange s with cond := some uptoSmall }

/-- 'samaritanlaw19.StorageSplitWrites', WHERE WHAT IT READS IS OF BULK AT MOST 1048576: true; the input reads as it did. -/
def storageSplitWritesUptoRow : OpenClaim := { program := "ytmabbdkckdpeoaa", sum := "d2c63a23cee99ccbcde5ade44d53e5281760b7f9b9482b1d4e58c9dba42ed65a", func := "samaritan/samaritanlaw19.StorageSplitWrites", spec := "storageSplitWrites", apart := false, narrowed := true }
def StorageSplitWritesUptoSaid : Prop := storageSplitWritesUptoRow.holds Try.pinned (OpenSpec.upto storageSplitWritesSpec)

/-- 'samaritanlaw19.StorageNoAliasing', WHERE WHAT IT READS IS OF BULK AT MOST 1048576: true; the input reads as it did. -/
def storageNoAliasingUptoRow : OpenClaim := { program := "ytmabbdkckdpeoaa", sum := "d2c63a23cee99ccbcde5ade44d53e5281760b7f9b9482b1d4e58c9dba42ed65a", func := "samaritan/samaritanlaw19.StorageNoAliasing", spec := "storageNoAliasing", apart := false, narrowed := true }
def StorageNoAliasingUptoSaid : Prop := storageNoAliasingUptoRow.holds Try.pinned (OpenSpec.upto storageNoAliasingSpec)

/-- 'samaritanlaw19.StorageMatchesModel', WHERE WHAT IT READS IS OF BULK AT MOST 1048576: true; the input reads as it did. -/
def storageMatchesModelUptoRow : OpenClaim := { program := "ytmabbdkckdpeoaa", sum := "d2c63a23cee99ccbcde5ade44d53e5281760b7f9b9482b1d4e58c9dba42ed65a", func := "samaritan/samaritanlaw19.StorageMatchesModel", spec := "storageMatchesModel", apart := false, narrowed := true }
def StorageMatchesModelUptoSaid : Prop := storageMatchesModelUptoRow.holds Try.pinned (OpenSpec.upto storageMatchesModelSpec)

/-- 'samaritanlaw19.StorageDurability', WHERE WHAT IT READS IS OF BULK AT MOST 1048576: true; the input reads as it did. -/
def storageDurabilityUptoRow : OpenClaim := { program := "ytmabbdkckdpeoaa", sum := "d2c63a23cee99ccbcde5ade44d53e5281760b7f9b9482b1d4e58c9dba42ed65a", func := "samaritan/samaritanlaw19.StorageDurability", spec := "storageDurability", apart := false, narrowed := true }
def StorageDurabilityUptoSaid : Prop := storageDurabilityUptoRow.holds Try.pinned (OpenSpec.upto storageDurabilitySpec)

/-- 'samaritanlaw19.StorageSyncedData', WHERE WHAT IT READS IS OF BULK AT MOST 1048576: true; the input reads as it did. -/
def storageSyncedDataUptoRow : OpenClaim := { program := "ytmabbdkckdpeoaa", sum := "d2c63a23cee99ccbcde5ade44d53e5281760b7f9b9482b1d4e58c9dba42ed65a", func := "samaritan/samaritanlaw19.StorageSyncedData", spec := "storageSyncedData", apart := false, narrowed := true }
def StorageSyncedDataUptoSaid : Prop := storageSyncedDataUptoRow.holds Try.pinned (OpenSpec.upto storageSyncedDataSpec)

/-- 'samaritanlaw19.StoragePoweredOff', WHERE WHAT IT READS IS OF BULK AT MOST 1048576: true; the input reads as it did. -/
def storagePoweredOffUptoRow : OpenClaim := { program := "ytmabbdkckdpeoaa", sum := "d2c63a23cee99ccbcde5ade44d53e5281760b7f9b9482b1d4e58c9dba42ed65a", func := "samaritan/samaritanlaw19.StoragePoweredOff", spec := "storagePoweredOff", apart := false, narrowed := true }
def StoragePoweredOffUptoSaid : Prop := storagePoweredOffUptoRow.holds Try.pinned (OpenSpec.upto storagePoweredOffSpec)

end Rows
end Go.Proofs.Ytmabbdkckdpeoaa
