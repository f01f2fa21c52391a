/-
  No cell of these rows narrows 'for every input' (looked for: loops, veiled, ifaces, maps, wideKeys, modest, calm, conditions, laid).
  DERIVED. THE GIVEN ROWS OF THIS SEAT. 6 by the template 'for every input the law returns true; each argument reads behind the call as it read before'; 0 by the template 'total and deterministic' (their statements: YtikbenngbaicoaaTotals.lean).
  GIVEN WITH THE SEED: the statements are not yours to turn. If you find one false, say at which input.
  Laid BY PROGRAM, IN A SANDBOX (cutbox-rows.mjs): the forced cells as the released guide's own fill.sh prints them over the translation 3a4e0bc6e8356818… (all of the seat's roots in one cut). By AI agents, Wed Nov 11 2026. No macro, syntax, notation, axiom, sorry.
-/
import Derived.Test.YtikbenngbaicoaaChecked
import GoSem.Claim
import GoSem.ClaimJoined
import GoSem.ClaimMapViews
import Derived.JoinedTies
import Derived.KernelRfl
namespace Go.Proofs.Ytikbenngbaicoaa
/- THE CELL 'sum', in the pinned program and in every row, IS THE sha256 OF THE DUMP (.gsa) THAT YtikbenngbaicoaaProg.lean LOADS. Nothing in Lean hashes anything: it is a label: what it is worth is what the hold of that sum in a sandbox is worth. -/
noncomputable def Try.pinned : Pinned := { name := "ytikbenngbaicoaa", sum := "3a4e0bc6e83568185b7517c29f26f7b1a23369d01a2c689288326a8488a24f33", checked := Try.checked }
namespace Rows
def none {H : Type} : Left H := { results := [], args := [] }

/-- 'samaritanlaw28.OrderFenceMatchesModel': WHATEVER THE INPUT: true; the input reads as it did. -/
def orderFenceMatchesModelSpec : ChangeSpec := { name := "orderFenceMatchesModel", fn := fun _ => fun
  | [d1, d2] => { results := [.lit (.bool true)], args := [d1, d2] }
  | _ => none }
def orderFenceMatchesModelRow : OpenClaim := { program := "ytikbenngbaicoaa", sum := "3a4e0bc6e83568185b7517c29f26f7b1a23369d01a2c689288326a8488a24f33", func := "samaritan/samaritanlaw28.OrderFenceMatchesModel", spec := "orderFenceMatchesModel", apart := false }
def OrderFenceMatchesModelSaid : Prop := orderFenceMatchesModelRow.holds Try.pinned (OpenSpec.ofChange orderFenceMatchesModelSpec)

/-- ITS FALSE NEIGHBOUR: 'it returns false'. Refute it at one input. -/
def orderFenceMatchesModelWrong : ChangeSpec := { name := "orderFenceMatchesModel", fn := fun _ => fun
  | [d1, d2] => { results := [.lit (.bool false)], args := [d1, d2] }
  | _ => none }
def OrderFenceMatchesModelWrongFalsely : Prop := orderFenceMatchesModelRow.holds Try.pinned (OpenSpec.ofChange orderFenceMatchesModelWrong)

/-- 'samaritanlaw28.OrderEncodes': WHATEVER THE INPUT: true; the input reads as it did. -/
def orderEncodesSpec : ChangeSpec := { name := "orderEncodes", fn := fun _ => fun
  | [d1, d2] => { results := [.lit (.bool true)], args := [d1, d2] }
  | _ => none }
def orderEncodesRow : OpenClaim := { program := "ytikbenngbaicoaa", sum := "3a4e0bc6e83568185b7517c29f26f7b1a23369d01a2c689288326a8488a24f33", func := "samaritan/samaritanlaw28.OrderEncodes", spec := "orderEncodes", apart := false }
def OrderEncodesSaid : Prop := orderEncodesRow.holds Try.pinned (OpenSpec.ofChange orderEncodesSpec)

/-- ITS FALSE NEIGHBOUR: 'it returns false'. Refute it at one input. -/
def orderEncodesWrong : ChangeSpec := { name := "orderEncodes", fn := fun _ => fun
  | [d1, d2] => { results := [.lit (.bool false)], args := [d1, d2] }
  | _ => none }
def OrderEncodesWrongFalsely : Prop := orderEncodesRow.holds Try.pinned (OpenSpec.ofChange orderEncodesWrong)

/-- 'samaritanlaw28.OrderDecodes': WHATEVER THE INPUT: true; the input reads as it did. -/
def orderDecodesSpec : ChangeSpec := { name := "orderDecodes", fn := fun _ => fun
  | [d] => { results := [.lit (.bool true)], args := [d] }
  | _ => none }
def orderDecodesRow : OpenClaim := { program := "ytikbenngbaicoaa", sum := "3a4e0bc6e83568185b7517c29f26f7b1a23369d01a2c689288326a8488a24f33", func := "samaritan/samaritanlaw28.OrderDecodes", spec := "orderDecodes", apart := false }
def OrderDecodesSaid : Prop := orderDecodesRow.holds Try.pinned (OpenSpec.ofChange orderDecodesSpec)

/-- ITS FALSE NEIGHBOUR: 'it returns false'. Refute it at one input. -/
def orderDecodesWrong : ChangeSpec := { name := "orderDecodes", fn := fun _ => fun
  | [d] => { results := [.lit (.bool false)], args := [d] }
  | _ => none }
def OrderDecodesWrongFalsely : Prop := orderDecodesRow.holds Try.pinned (OpenSpec.ofChange orderDecodesWrong)

/-- 'samaritanlaw28.OrderFenceRestores': WHATEVER THE INPUT: true; the input reads as it did. -/
def orderFenceRestoresSpec : ChangeSpec := { name := "orderFenceRestores", fn := fun _ => fun
  | [d1, d2] => { results := [.lit (.bool true)], args := [d1, d2] }
  | _ => none }
def orderFenceRestoresRow : OpenClaim := { program := "ytikbenngbaicoaa", sum := "3a4e0bc6e83568185b7517c29f26f7b1a23369d01a2c689288326a8488a24f33", func := "samaritan/samaritanlaw28.OrderFenceRestores", spec := "orderFenceRestores", apart := false }
def OrderFenceRestoresSaid : Prop := orderFenceRestoresRow.holds Try.pinned (OpenSpec.ofChange orderFenceRestoresSpec)

/-- ITS FALSE NEIGHBOUR: 'it returns false'. Refute it at one input. -/
def orderFenceRestoresWrong : ChangeSpec := { name := "orderFenceRestores", fn := fun _ => fun
  | [d1, d2] => { results := [.lit (.bool false)], args := [d1, d2] }
  | _ => none }
def OrderFenceRestoresWrongFalsely : Prop := orderFenceRestoresRow.holds Try.pinned (OpenSpec.ofChange orderFenceRestoresWrong)

/-- 'samaritanlaw28.OrderFenceKeepsNewest': WHATEVER THE INPUT: true; the input reads as it did. -/
def orderFenceKeepsNewestSpec : ChangeSpec := { name := "orderFenceKeepsNewest", fn := fun _ => fun
  | [d1, d2, d3] => { results := [.lit (.bool true)], args := [d1, d2, d3] }
  | _ => none }
def orderFenceKeepsNewestRow : OpenClaim := { program := "ytikbenngbaicoaa", sum := "3a4e0bc6e83568185b7517c29f26f7b1a23369d01a2c689288326a8488a24f33", func := "samaritan/samaritanlaw28.OrderFenceKeepsNewest", spec := "orderFenceKeepsNewest", apart := false }
def OrderFenceKeepsNewestSaid : Prop := orderFenceKeepsNewestRow.holds Try.pinned (OpenSpec.ofChange orderFenceKeepsNewestSpec)

/-- ITS FALSE NEIGHBOUR: 'it returns false'. Refute it at one input. -/
def orderFenceKeepsNewestWrong : ChangeSpec := { name := "orderFenceKeepsNewest", fn := fun _ => fun
  | [d1, d2, d3] => { results := [.lit (.bool false)], args := [d1, d2, d3] }
  | _ => none }
def OrderFenceKeepsNewestWrongFalsely : Prop := orderFenceKeepsNewestRow.holds Try.pinned (OpenSpec.ofChange orderFenceKeepsNewestWrong)

/-- 'samaritanlaw28.OrderRoundTrips': WHATEVER THE INPUT: true; the input reads as it did. -/
def orderRoundTripsSpec : ChangeSpec := { name := "orderRoundTrips", fn := fun _ => fun
  | [d1, d2] => { results := [.lit (.bool true)], args := [d1, d2] }
  | _ => none }
def orderRoundTripsRow : OpenClaim := { program := "ytikbenngbaicoaa", sum := "3a4e0bc6e83568185b7517c29f26f7b1a23369d01a2c689288326a8488a24f33", func := "samaritan/samaritanlaw28.OrderRoundTrips", spec := "orderRoundTrips", apart := false }
def OrderRoundTripsSaid : Prop := orderRoundTripsRow.holds Try.pinned (OpenSpec.ofChange orderRoundTripsSpec)

/-- ITS FALSE NEIGHBOUR: 'it returns false'. Refute it at one input. -/
def orderRoundTripsWrong : ChangeSpec := { name := "orderRoundTrips", fn := fun _ => fun
  | [d1, d2] => { results := [.lit (.bool false)], args := [d1, d2] }
  | _ => none }
def OrderRoundTripsWrongFalsely : Prop := orderRoundTripsRow.holds Try.pinned (OpenSpec.ofChange orderRoundTripsWrong)

/- THE SECOND FORM. 'bulk': how many values and letters a reading holds, each counted each time it is reached (what is shared counts as often as it is met; a slice's spare places count too). A statement '..UptoSaid' is the law's where the arguments, and the package variables that the reading takes, are together of bulk at most 1048576: NARROWER than '..Said'. Prove '..Said' where nothing that the law and all that it calls make is longer than what came in: it says more and counts as full. Else prove '..UptoSaid'. A law counts once. -/
mutual
def uptoBulk {H : Type} : DataW H → Nat
  | .lit (.string bytes) => bytes.length + 1
  | .lit _ => 1
  | .nil => 1
  | .ptr d => uptoBulk d + 1
  | .slice elems spare => uptoBulkAll elems + uptoBulkAll spare + 1
  | .agg parts => uptoBulkAll parts + 1
  | .iface _ d => uptoBulk d + 1
  | .map entries => uptoBulkEntries entries + 1
  | .held _ => 1
def uptoBulkAll {H : Type} : List (DataW H) → Nat
  | [] => 0
  | d :: r => uptoBulk d + uptoBulkAll r
def uptoBulkEntries {H : Type} : List (Lit × DataW H) → Nat
  | [] => 0
  | x :: r => uptoBulkEntry x + uptoBulkEntries r
def uptoBulkEntry {H : Type} : Lit × DataW H → Nat
  | (.string bytes, d) => bytes.length + uptoBulk d + 1
  | (_, d) => uptoBulk d + 1
 end
def uptoSmall : (H : Type) → List (DataW H) → Bool := fun _ ds => decide (uptoBulkAll ds ≤ 1048576)
def OpenSpec.upto (s : _root_.Go.ChangeSpec) : _root_.Go.OpenSpec := { _root_.Go.OpenSpec.ofChange s with cond := some uptoSmall }

/-- 'samaritanlaw28.OrderFenceMatchesModel', WHERE WHAT IT READS IS OF BULK AT MOST 1048576: true; the input reads as it did. -/
def orderFenceMatchesModelUptoRow : OpenClaim := { program := "ytikbenngbaicoaa", sum := "3a4e0bc6e83568185b7517c29f26f7b1a23369d01a2c689288326a8488a24f33", func := "samaritan/samaritanlaw28.OrderFenceMatchesModel", spec := "orderFenceMatchesModel", apart := false, narrowed := true }
def OrderFenceMatchesModelUptoSaid : Prop := orderFenceMatchesModelUptoRow.holds Try.pinned (OpenSpec.upto orderFenceMatchesModelSpec)

/-- 'samaritanlaw28.OrderEncodes', WHERE WHAT IT READS IS OF BULK AT MOST 1048576: true; the input reads as it did. -/
def orderEncodesUptoRow : OpenClaim := { program := "ytikbenngbaicoaa", sum := "3a4e0bc6e83568185b7517c29f26f7b1a23369d01a2c689288326a8488a24f33", func := "samaritan/samaritanlaw28.OrderEncodes", spec := "orderEncodes", apart := false, narrowed := true }
def OrderEncodesUptoSaid : Prop := orderEncodesUptoRow.holds Try.pinned (OpenSpec.upto orderEncodesSpec)

/-- 'samaritanlaw28.OrderDecodes', WHERE WHAT IT READS IS OF BULK AT MOST 1048576: true; the input reads as it did. -/
def orderDecodesUptoRow : OpenClaim := { program := "ytikbenngbaicoaa", sum := "3a4e0bc6e83568185b7517c29f26f7b1a23369d01a2c689288326a8488a24f33", func := "samaritan/samaritanlaw28.OrderDecodes", spec := "orderDecodes", apart := false, narrowed := true }
def OrderDecodesUptoSaid : Prop := orderDecodesUptoRow.holds Try.pinned (OpenSpec.upto orderDecodesSpec)

/-- 'samaritanlaw28.OrderFenceRestores', WHERE WHAT IT READS IS OF BULK AT MOST 1048576: true; the input reads as it did. -/
def orderFenceRestoresUptoRow : OpenClaim := { program := "ytikbenngbaicoaa", sum := "3a4e0bc6e83568185b7517c29f26f7b1a23369d01a2c689288326a8488a24f33", func := "samaritan/samaritanlaw28.OrderFenceRestores", spec := "orderFenceRestores", apart := false, narrowed := true }
def OrderFenceRestoresUptoSaid : Prop := orderFenceRestoresUptoRow.holds Try.pinned (OpenSpec.upto orderFenceRestoresSpec)

/-- 'samaritanlaw28.OrderFenceKeepsNewest', WHERE WHAT IT READS IS OF BULK AT MOST 1048576: true; the input reads as it did. -/
def orderFenceKeepsNewestUptoRow : OpenClaim := { program := "ytikbenngbaicoaa", sum := "3a4e0bc6e83568185b7517c29f26f7b1a23369d01a2c689288326a8488a24f33", func := "samaritan/samaritanlaw28.OrderFenceKeepsNewest", spec := "orderFenceKeepsNewest", apart := false, narrowed := true }
def OrderFenceKeepsNewestUptoSaid : Prop := orderFenceKeepsNewestUptoRow.holds Try.pinned (OpenSpec.upto orderFenceKeepsNewestSpec)

/-- 'samaritanlaw28.OrderRoundTrips', WHERE WHAT IT READS IS OF BULK AT MOST 1048576: true; the input reads as it did. -/
def orderRoundTripsUptoRow : OpenClaim := { program := "ytikbenngbaicoaa", sum := "3a4e0bc6e83568185b7517c29f26f7b1a23369d01a2c689288326a8488a24f33", func := "samaritan/samaritanlaw28.OrderRoundTrips", spec := "orderRoundTrips", apart := false, narrowed := true }
def OrderRoundTripsUptoSaid : Prop := orderRoundTripsUptoRow.holds Try.pinned (OpenSpec.upto orderRoundTripsSpec)

end Rows
end Go.Proofs.Ytikbenngbaicoaa
