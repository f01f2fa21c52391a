/-
  No cell of these rows narrows 'for every input' (looked for: loops, veiled, ifaces, maps, wideKeys, modest, calm, conditions, laid).
  DERIVED. THE GIVEN ROWS OF THIS SEAT. 5 by the template 'for every input the law returns true; each argument reads behind the call as it read before'; 0 by the template 'total and deterministic' (their statements: YtmacmlgjejdhpaaTotals.lean).
  GIVEN WITH THE SEED: the statements are not yours to turn. If you find one false, say at which input.
  Laid BY PROGRAM, IN A SANDBOX (cutbox-rows.mjs): the forced cells as the released guide's own fill.sh prints them over the translation dfc38388058a4434… (all of the seat's roots in one cut). By AI agents, Wed Nov 11 2026. No macro, syntax, notation, axiom, sorry.
-/
import Derived.Test.YtmacmlgjejdhpaaChecked
import GoSem.Claim
import GoSem.ClaimJoined
import GoSem.ClaimMapViews
import Derived.JoinedTies
import Derived.KernelRfl
namespace Go.Proofs.Ytmacmlgjejdhpaa
/- THE CELL 'sum', in the pinned program and in every row, IS THE sha256 OF THE DUMP (.gsa) THAT YtmacmlgjejdhpaaProg.lean LOADS. Nothing in Lean hashes anything: it is a label: what it is worth is what the hold of that sum in a sandbox is worth. -/
noncomputable def Try.pinned : Pinned := { name := "ytmacmlgjejdhpaa", sum := "dfc38388058a443485c5ba71e512cefc77d8aae4482e3988f99a8b686139c901", checked := Try.checked }
namespace Rows
def none {H : Type} : Left H := { results := [], args := [] }

/-- 'samaritanlaw29.UnitAgentNew': WHATEVER THE INPUT: true; the input reads as it did. -/
def unitAgentNewSpec : ChangeSpec := { name := "unitAgentNew", fn := fun _ => fun
  | [d] => { results := [.lit (.bool true)], args := [d] }
  | _ => none }
def unitAgentNewRow : OpenClaim := { program := "ytmacmlgjejdhpaa", sum := "dfc38388058a443485c5ba71e512cefc77d8aae4482e3988f99a8b686139c901", func := "samaritan/samaritanlaw29.UnitAgentNew", spec := "unitAgentNew", unfollowed := true, recurses := true, apart := false }
def UnitAgentNewSaid : Prop := unitAgentNewRow.holds Try.pinned (OpenSpec.ofChange unitAgentNewSpec)

/-- ITS FALSE NEIGHBOUR: 'it returns false'. Refute it at one input. -/
def unitAgentNewWrong : ChangeSpec := { name := "unitAgentNew", fn := fun _ => fun
  | [d] => { results := [.lit (.bool false)], args := [d] }
  | _ => none }
def UnitAgentNewWrongFalsely : Prop := unitAgentNewRow.holds Try.pinned (OpenSpec.ofChange unitAgentNewWrong)

/-- 'samaritanlaw29.UnitAgentAdvance': WHATEVER THE INPUT: true; the input reads as it did. -/
def unitAgentAdvanceSpec : ChangeSpec := { name := "unitAgentAdvance", fn := fun _ => fun
  | [d1, d2, d3] => { results := [.lit (.bool true)], args := [d1, d2, d3] }
  | _ => none }
def unitAgentAdvanceRow : OpenClaim := { program := "ytmacmlgjejdhpaa", sum := "dfc38388058a443485c5ba71e512cefc77d8aae4482e3988f99a8b686139c901", func := "samaritan/samaritanlaw29.UnitAgentAdvance", spec := "unitAgentAdvance", unfollowed := true, recurses := true, apart := false }
def UnitAgentAdvanceSaid : Prop := unitAgentAdvanceRow.holds Try.pinned (OpenSpec.ofChange unitAgentAdvanceSpec)

/-- ITS FALSE NEIGHBOUR: 'it returns false'. Refute it at one input. -/
def unitAgentAdvanceWrong : ChangeSpec := { name := "unitAgentAdvance", fn := fun _ => fun
  | [d1, d2, d3] => { results := [.lit (.bool false)], args := [d1, d2, d3] }
  | _ => none }
def UnitAgentAdvanceWrongFalsely : Prop := unitAgentAdvanceRow.holds Try.pinned (OpenSpec.ofChange unitAgentAdvanceWrong)

/-- 'samaritanlaw29.UnitAgentStaleOrders': WHATEVER THE INPUT: true; the input reads as it did. -/
def unitAgentStaleOrdersSpec : ChangeSpec := { name := "unitAgentStaleOrders", fn := fun _ => fun
  | [d1, d2, d3] => { results := [.lit (.bool true)], args := [d1, d2, d3] }
  | _ => none }
def unitAgentStaleOrdersRow : OpenClaim := { program := "ytmacmlgjejdhpaa", sum := "dfc38388058a443485c5ba71e512cefc77d8aae4482e3988f99a8b686139c901", func := "samaritan/samaritanlaw29.UnitAgentStaleOrders", spec := "unitAgentStaleOrders", unfollowed := true, recurses := true, apart := false }
def UnitAgentStaleOrdersSaid : Prop := unitAgentStaleOrdersRow.holds Try.pinned (OpenSpec.ofChange unitAgentStaleOrdersSpec)

/-- ITS FALSE NEIGHBOUR: 'it returns false'. Refute it at one input. -/
def unitAgentStaleOrdersWrong : ChangeSpec := { name := "unitAgentStaleOrders", fn := fun _ => fun
  | [d1, d2, d3] => { results := [.lit (.bool false)], args := [d1, d2, d3] }
  | _ => none }
def UnitAgentStaleOrdersWrongFalsely : Prop := unitAgentStaleOrdersRow.holds Try.pinned (OpenSpec.ofChange unitAgentStaleOrdersWrong)

/-- 'samaritanlaw29.UnitAgentSingleIncident': WHATEVER THE INPUT: true; the input reads as it did. -/
def unitAgentSingleIncidentSpec : ChangeSpec := { name := "unitAgentSingleIncident", fn := fun _ => fun
  | [d1, d2] => { results := [.lit (.bool true)], args := [d1, d2] }
  | _ => none }
def unitAgentSingleIncidentRow : OpenClaim := { program := "ytmacmlgjejdhpaa", sum := "dfc38388058a443485c5ba71e512cefc77d8aae4482e3988f99a8b686139c901", func := "samaritan/samaritanlaw29.UnitAgentSingleIncident", spec := "unitAgentSingleIncident", unfollowed := true, recurses := true, apart := false }
def UnitAgentSingleIncidentSaid : Prop := unitAgentSingleIncidentRow.holds Try.pinned (OpenSpec.ofChange unitAgentSingleIncidentSpec)

/-- ITS FALSE NEIGHBOUR: 'it returns false'. Refute it at one input. -/
def unitAgentSingleIncidentWrong : ChangeSpec := { name := "unitAgentSingleIncident", fn := fun _ => fun
  | [d1, d2] => { results := [.lit (.bool false)], args := [d1, d2] }
  | _ => none }
def UnitAgentSingleIncidentWrongFalsely : Prop := unitAgentSingleIncidentRow.holds Try.pinned (OpenSpec.ofChange unitAgentSingleIncidentWrong)

/-- 'samaritanlaw29.UnitAgentReports': WHATEVER THE INPUT: true; the input reads as it did. -/
def unitAgentReportsSpec : ChangeSpec := { name := "unitAgentReports", fn := fun _ => fun
  | [d1, d2, d3] => { results := [.lit (.bool true)], args := [d1, d2, d3] }
  | _ => none }
def unitAgentReportsRow : OpenClaim := { program := "ytmacmlgjejdhpaa", sum := "dfc38388058a443485c5ba71e512cefc77d8aae4482e3988f99a8b686139c901", func := "samaritan/samaritanlaw29.UnitAgentReports", spec := "unitAgentReports", unfollowed := true, recurses := true, apart := false }
def UnitAgentReportsSaid : Prop := unitAgentReportsRow.holds Try.pinned (OpenSpec.ofChange unitAgentReportsSpec)

/-- ITS FALSE NEIGHBOUR: 'it returns false'. Refute it at one input. -/
def unitAgentReportsWrong : ChangeSpec := { name := "unitAgentReports", fn := fun _ => fun
  | [d1, d2, d3] => { results := [.lit (.bool false)], args := [d1, d2, d3] }
  | _ => none }
def UnitAgentReportsWrongFalsely : Prop := unitAgentReportsRow.holds Try.pinned (OpenSpec.ofChange unitAgentReportsWrong)

/- THE SECOND FORM. 'bulk': how many values and letters a reading holds, each counted each time it is reached (what is shared counts as often as it is met; a slice's spare places count too). A statement '..UptoSaid' is the law's where the arguments, and the package variables that the reading takes, are together of bulk at most 1048576: NARROWER than '..Said'. Prove '..Said' where nothing that the law and all that it calls make is longer than what came in: it says more and counts as full. Else prove '..UptoSaid'. A law counts once. -/
mutual
def uptoBulk {H : Type} : DataW H → Nat
  | .lit (.string bytes) => bytes.length + 1
  | .lit _ => 1
  | .nil => 1
  | .ptr d => uptoBulk d + 1
  | .slice elems spare => uptoBulkAll elems + uptoBulkAll spare + 1
  | .agg parts => uptoBulkAll parts + 1
  | .iface _ d => uptoBulk d + 1
  | .map entries => uptoBulkEntries entries + 1
  | .held _ => 1
def uptoBulkAll {H : Type} : List (DataW H) → Nat
  | [] => 0
  | d :: r => uptoBulk d + uptoBulkAll r
def uptoBulkEntries {H : Type} : List (Lit × DataW H) → Nat
  | [] => 0
  | x :: r => uptoBulkEntry x + uptoBulkEntries r
def uptoBulkEntry {H : Type} : Lit × DataW H → Nat
  | (.string bytes, d) => bytes.length + uptoBulk d + 1
  | (_, d) => uptoBulk d + 1
 end
def uptoSmall : (H : Type) → List (DataW H) → Bool := fun _ ds => decide (uptoBulkAll ds ≤ 1048576)
def OpenSpec.upto (s : _root_.Go.ChangeSpec) : _root_.Go.OpenSpec := { _root_.Go.OpenSpec.ofChange s with cond := some uptoSmall }

/-- 'samaritanlaw29.UnitAgentNew', WHERE WHAT IT READS IS OF BULK AT MOST 1048576: true; the input reads as it did. -/
def unitAgentNewUptoRow : OpenClaim := { program := "ytmacmlgjejdhpaa", sum := "dfc38388058a443485c5ba71e512cefc77d8aae4482e3988f99a8b686139c901", func := "samaritan/samaritanlaw29.UnitAgentNew", spec := "unitAgentNew", unfollowed := true, recurses := true, apart := false, narrowed := true }
def UnitAgentNewUptoSaid : Prop := unitAgentNewUptoRow.holds Try.pinned (OpenSpec.upto unitAgentNewSpec)

/-- 'samaritanlaw29.UnitAgentAdvance', WHERE WHAT IT READS IS OF BULK AT MOST 1048576: true; the input reads as it did. -/
def unitAgentAdvanceUptoRow : OpenClaim := { program := "ytmacmlgjejdhpaa", sum := "dfc38388058a443485c5ba71e512cefc77d8aae4482e3988f99a8b686139c901", func := "samaritan/samaritanlaw29.UnitAgentAdvance", spec := "unitAgentAdvance", unfollowed := true, recurses := true, apart := false, narrowed := true }
def UnitAgentAdvanceUptoSaid : Prop := unitAgentAdvanceUptoRow.holds Try.pinned (OpenSpec.upto unitAgentAdvanceSpec)

/-- 'samaritanlaw29.UnitAgentStaleOrders', WHERE WHAT IT READS IS OF BULK AT MOST 1048576: true; the input reads as it did. -/
def unitAgentStaleOrdersUptoRow : OpenClaim := { program := "ytmacmlgjejdhpaa", sum := "dfc38388058a443485c5ba71e512cefc77d8aae4482e3988f99a8b686139c901", func := "samaritan/samaritanlaw29.UnitAgentStaleOrders", spec := "unitAgentStaleOrders", unfollowed := true, recurses := true, apart := false, narrowed := true }
def UnitAgentStaleOrdersUptoSaid : Prop := unitAgentStaleOrdersUptoRow.holds Try.pinned (OpenSpec.upto unitAgentStaleOrdersSpec)

/-- 'samaritanlaw29.UnitAgentSingleIncident', WHERE WHAT IT READS IS OF BULK AT MOST 1048576: true; the input reads as it did. -/
def unitAgentSingleIncidentUptoRow : OpenClaim := { program := "ytmacmlgjejdhpaa", sum := "dfc38388058a443485c5ba71e512cefc77d8aae4482e3988f99a8b686139c901", func := "samaritan/samaritanlaw29.UnitAgentSingleIncident", spec := "unitAgentSingleIncident", unfollowed := true, recurses := true, apart := false, narrowed := true }
def UnitAgentSingleIncidentUptoSaid : Prop := unitAgentSingleIncidentUptoRow.holds Try.pinned (OpenSpec.upto unitAgentSingleIncidentSpec)

/-- 'samaritanlaw29.UnitAgentReports', WHERE WHAT IT READS IS OF BULK AT MOST 1048576: true; the input reads as it did. -/
def unitAgentReportsUptoRow : OpenClaim := { program := "ytmacmlgjejdhpaa", sum := "dfc38388058a443485c5ba71e512cefc77d8aae4482e3988f99a8b686139c901", func := "samaritan/samaritanlaw29.UnitAgentReports", spec := "unitAgentReports", unfollowed := true, recurses := true, apart := false, narrowed := true }
def UnitAgentReportsUptoSaid : Prop := unitAgentReportsUptoRow.holds Try.pinned (OpenSpec.upto unitAgentReportsSpec)

end Rows
end Go.Proofs.Ytmacmlgjejdhpaa
