/-
  No cell of these rows narrows 'for every input' (looked for: loops, veiled, ifaces, maps, wideKeys, modest, calm, conditions, laid).
  DERIVED. THE GIVEN ROWS OF THIS SEAT. 6 by the template 'for every input the law returns true; each argument reads behind the call as it read before'; 0 by the template 'total and deterministic' (their statements: YtmohhociomghhaaTotals.lean).
  GIVEN WITH THE SEED: the statements are not yours to turn. If you find one false, say at which input.
  Laid BY PROGRAM, IN A SANDBOX (cutbox-rows.mjs): the forced cells as the released guide's own fill.sh prints them over the translation 76b2db62e31aa045… (all of the seat's roots in one cut). By AI agents, Wed Nov 11 2026. No macro, syntax, notation, axiom, sorry.
-/
import Derived.Test.YtmohhociomghhaaChecked
import GoSem.Claim
import GoSem.ClaimJoined
import GoSem.ClaimMapViews
import Derived.JoinedTies
import Derived.KernelRfl
namespace Go.Proofs.Ytmohhociomghhaa
/- THE CELL 'sum', in the pinned program and in every row, IS THE sha256 OF THE DUMP (.gsa) THAT YtmohhociomghhaaProg.lean LOADS. Nothing in Lean hashes anything: it is a label: what it is worth is what the hold of that sum in a sandbox is worth. -/
noncomputable def Try.pinned : Pinned := { name := "ytmohhociomghhaa", sum := "76b2db62e31aa045932f9ad336df7b5dd17dba6d91278f3584e04fe9617d00c5", checked := Try.checked }
namespace Rows
def none {H : Type} : Left H := { results := [], args := [] }

/-- 'samaritanlaw27.UnitstateNew': WHATEVER THE INPUT: true; the input reads as it did. -/
def unitstateNewSpec : ChangeSpec := { name := "unitstateNew", fn := fun _ => fun
  | [d1, d2] => { results := [.lit (.bool true)], args := [d1, d2] }
  | _ => none }
def unitstateNewRow : OpenClaim := { program := "ytmohhociomghhaa", sum := "76b2db62e31aa045932f9ad336df7b5dd17dba6d91278f3584e04fe9617d00c5", func := "samaritan/samaritanlaw27.UnitstateNew", spec := "unitstateNew", apart := false }
def UnitstateNewSaid : Prop := unitstateNewRow.holds Try.pinned (OpenSpec.ofChange unitstateNewSpec)

/-- ITS FALSE NEIGHBOUR: 'it returns false'. Refute it at one input. -/
def unitstateNewWrong : ChangeSpec := { name := "unitstateNew", fn := fun _ => fun
  | [d1, d2] => { results := [.lit (.bool false)], args := [d1, d2] }
  | _ => none }
def UnitstateNewWrongFalsely : Prop := unitstateNewRow.holds Try.pinned (OpenSpec.ofChange unitstateNewWrong)

/-- 'samaritanlaw27.UnitstateExclusiveAssignment': WHATEVER THE INPUT: true; the input reads as it did. -/
def unitstateExclusiveAssignmentSpec : ChangeSpec := { name := "unitstateExclusiveAssignment", fn := fun _ => fun
  | [d1, d2] => { results := [.lit (.bool true)], args := [d1, d2] }
  | _ => none }
def unitstateExclusiveAssignmentRow : OpenClaim := { program := "ytmohhociomghhaa", sum := "76b2db62e31aa045932f9ad336df7b5dd17dba6d91278f3584e04fe9617d00c5", func := "samaritan/samaritanlaw27.UnitstateExclusiveAssignment", spec := "unitstateExclusiveAssignment", apart := false }
def UnitstateExclusiveAssignmentSaid : Prop := unitstateExclusiveAssignmentRow.holds Try.pinned (OpenSpec.ofChange unitstateExclusiveAssignmentSpec)

/-- ITS FALSE NEIGHBOUR: 'it returns false'. Refute it at one input. -/
def unitstateExclusiveAssignmentWrong : ChangeSpec := { name := "unitstateExclusiveAssignment", fn := fun _ => fun
  | [d1, d2] => { results := [.lit (.bool false)], args := [d1, d2] }
  | _ => none }
def UnitstateExclusiveAssignmentWrongFalsely : Prop := unitstateExclusiveAssignmentRow.holds Try.pinned (OpenSpec.ofChange unitstateExclusiveAssignmentWrong)

/-- 'samaritanlaw27.UnitstatePendingOrders': WHATEVER THE INPUT: true; the input reads as it did. -/
def unitstatePendingOrdersSpec : ChangeSpec := { name := "unitstatePendingOrders", fn := fun _ => fun
  | [d1, d2] => { results := [.lit (.bool true)], args := [d1, d2] }
  | _ => none }
def unitstatePendingOrdersRow : OpenClaim := { program := "ytmohhociomghhaa", sum := "76b2db62e31aa045932f9ad336df7b5dd17dba6d91278f3584e04fe9617d00c5", func := "samaritan/samaritanlaw27.UnitstatePendingOrders", spec := "unitstatePendingOrders", apart := false }
def UnitstatePendingOrdersSaid : Prop := unitstatePendingOrdersRow.holds Try.pinned (OpenSpec.ofChange unitstatePendingOrdersSpec)

/-- ITS FALSE NEIGHBOUR: 'it returns false'. Refute it at one input. -/
def unitstatePendingOrdersWrong : ChangeSpec := { name := "unitstatePendingOrders", fn := fun _ => fun
  | [d1, d2] => { results := [.lit (.bool false)], args := [d1, d2] }
  | _ => none }
def UnitstatePendingOrdersWrongFalsely : Prop := unitstatePendingOrdersRow.holds Try.pinned (OpenSpec.ofChange unitstatePendingOrdersWrong)

/-- 'samaritanlaw27.UnitstateSilence': WHATEVER THE INPUT: true; the input reads as it did. -/
def unitstateSilenceSpec : ChangeSpec := { name := "unitstateSilence", fn := fun _ => fun
  | [d1, d2, d3] => { results := [.lit (.bool true)], args := [d1, d2, d3] }
  | _ => none }
def unitstateSilenceRow : OpenClaim := { program := "ytmohhociomghhaa", sum := "76b2db62e31aa045932f9ad336df7b5dd17dba6d91278f3584e04fe9617d00c5", func := "samaritan/samaritanlaw27.UnitstateSilence", spec := "unitstateSilence", apart := false }
def UnitstateSilenceSaid : Prop := unitstateSilenceRow.holds Try.pinned (OpenSpec.ofChange unitstateSilenceSpec)

/-- ITS FALSE NEIGHBOUR: 'it returns false'. Refute it at one input. -/
def unitstateSilenceWrong : ChangeSpec := { name := "unitstateSilence", fn := fun _ => fun
  | [d1, d2, d3] => { results := [.lit (.bool false)], args := [d1, d2, d3] }
  | _ => none }
def UnitstateSilenceWrongFalsely : Prop := unitstateSilenceRow.holds Try.pinned (OpenSpec.ofChange unitstateSilenceWrong)

/-- 'samaritanlaw27.UnitstateStaleReports': WHATEVER THE INPUT: true; the input reads as it did. -/
def unitstateStaleReportsSpec : ChangeSpec := { name := "unitstateStaleReports", fn := fun _ => fun
  | [d1, d2, d3] => { results := [.lit (.bool true)], args := [d1, d2, d3] }
  | _ => none }
def unitstateStaleReportsRow : OpenClaim := { program := "ytmohhociomghhaa", sum := "76b2db62e31aa045932f9ad336df7b5dd17dba6d91278f3584e04fe9617d00c5", func := "samaritan/samaritanlaw27.UnitstateStaleReports", spec := "unitstateStaleReports", apart := false }
def UnitstateStaleReportsSaid : Prop := unitstateStaleReportsRow.holds Try.pinned (OpenSpec.ofChange unitstateStaleReportsSpec)

/-- ITS FALSE NEIGHBOUR: 'it returns false'. Refute it at one input. -/
def unitstateStaleReportsWrong : ChangeSpec := { name := "unitstateStaleReports", fn := fun _ => fun
  | [d1, d2, d3] => { results := [.lit (.bool false)], args := [d1, d2, d3] }
  | _ => none }
def UnitstateStaleReportsWrongFalsely : Prop := unitstateStaleReportsRow.holds Try.pinned (OpenSpec.ofChange unitstateStaleReportsWrong)

/-- 'samaritanlaw27.UnitstateMatchesModel': WHATEVER THE INPUT: true; the input reads as it did. -/
def unitstateMatchesModelSpec : ChangeSpec := { name := "unitstateMatchesModel", fn := fun _ => fun
  | [d1, d2] => { results := [.lit (.bool true)], args := [d1, d2] }
  | _ => none }
def unitstateMatchesModelRow : OpenClaim := { program := "ytmohhociomghhaa", sum := "76b2db62e31aa045932f9ad336df7b5dd17dba6d91278f3584e04fe9617d00c5", func := "samaritan/samaritanlaw27.UnitstateMatchesModel", spec := "unitstateMatchesModel", apart := false }
def UnitstateMatchesModelSaid : Prop := unitstateMatchesModelRow.holds Try.pinned (OpenSpec.ofChange unitstateMatchesModelSpec)

/-- ITS FALSE NEIGHBOUR: 'it returns false'. Refute it at one input. -/
def unitstateMatchesModelWrong : ChangeSpec := { name := "unitstateMatchesModel", fn := fun _ => fun
  | [d1, d2] => { results := [.lit (.bool false)], args := [d1, d2] }
  | _ => none }
def UnitstateMatchesModelWrongFalsely : Prop := unitstateMatchesModelRow.holds Try.pinned (OpenSpec.ofChange unitstateMatchesModelWrong)

/- THE SECOND FORM. 'bulk': how many values and letters a reading holds, each counted each time it is reached (what is shared counts as often as it is met; a slice's spare places count too). A statement '..UptoSaid' is the law's where the arguments, and the package variables that the reading takes, are together of bulk at most 1048576: NARROWER than '..Said'. Prove '..Said' where nothing that the law and all that it calls make is longer than what came in: it says more and counts as full. Else prove '..UptoSaid'. A law counts once. -/
mutual
def uptoBulk {H : Type} : DataW H → Nat
  | .lit (.string bytes) => bytes.length + 1
  | .lit _ => 1
  | .nil => 1
  | .ptr d => uptoBulk d + 1
  | .slice elems spare => uptoBulkAll elems + uptoBulkAll spare + 1
  | .agg parts => uptoBulkAll parts + 1
  | .iface _ d => uptoBulk d + 1
  | .map entries => uptoBulkEntries entries + 1
  | .held _ => 1
def uptoBulkAll {H : Type} : List (DataW H) → Nat
  | [] => 0
  | d :: r => uptoBulk d + uptoBulkAll r
def uptoBulkEntries {H : Type} : List (Lit × DataW H) → Nat
  | [] => 0
  | x :: r => uptoBulkEntry x + uptoBulkEntries r
def uptoBulkEntry {H : Type} : Lit × DataW H → Nat
  | (.string bytes, d) => bytes.length + uptoBulk d + 1
  | (_, d) => uptoBulk d + 1
 end
def uptoSmall : (H : Type) → List (DataW H) → Bool := fun _ ds => decide (uptoBulkAll ds ≤ 1048576)
def OpenSpec.upto (s : _root_.Go.ChangeSpec) : _root_.Go.OpenSpec := { _root_.Go.OpenSpec.ofChange s with cond := some uptoSmall }

/-- 'samaritanlaw27.UnitstateNew', WHERE WHAT IT READS IS OF BULK AT MOST 1048576: true; the input reads as it did. -/
def unitstateNewUptoRow : OpenClaim := { program := "ytmohhociomghhaa", sum := "76b2db62e31aa045932f9ad336df7b5dd17dba6d91278f3584e04fe9617d00c5", func := "samaritan/samaritanlaw27.UnitstateNew", spec := "unitstateNew", apart := false, narrowed := true }
def UnitstateNewUptoSaid : Prop := unitstateNewUptoRow.holds Try.pinned (OpenSpec.upto unitstateNewSpec)

/-- 'samaritanlaw27.UnitstateExclusiveAssignment', WHERE WHAT IT READS IS OF BULK AT MOST 1048576: true; the input reads as it did. -/
def unitstateExclusiveAssignmentUptoRow : OpenClaim := { program := "ytmohhociomghhaa", sum := "76b2db62e31aa045932f9ad336df7b5dd17dba6d91278f3584e04fe9617d00c5", func := "samaritan/samaritanlaw27.UnitstateExclusiveAssignment", spec := "unitstateExclusiveAssignment", apart := false, narrowed := true }
def UnitstateExclusiveAssignmentUptoSaid : Prop := unitstateExclusiveAssignmentUptoRow.holds Try.pinned (OpenSpec.upto unitstateExclusiveAssignmentSpec)

/-- 'samaritanlaw27.UnitstatePendingOrders', WHERE WHAT IT READS IS OF BULK AT MOST 1048576: true; the input reads as it did. -/
def unitstatePendingOrdersUptoRow : OpenClaim := { program := "ytmohhociomghhaa", sum := "76b2db62e31aa045932f9ad336df7b5dd17dba6d91278f3584e04fe9617d00c5", func := "samaritan/samaritanlaw27.UnitstatePendingOrders", spec := "unitstatePendingOrders", apart := false, narrowed := true }
def UnitstatePendingOrdersUptoSaid : Prop := unitstatePendingOrdersUptoRow.holds Try.pinned (OpenSpec.upto unitstatePendingOrdersSpec)

/-- 'samaritanlaw27.UnitstateSilence', WHERE WHAT IT READS IS OF BULK AT MOST 1048576: true; the input reads as it did. -/
def unitstateSilenceUptoRow : OpenClaim := { program := "ytmohhociomghhaa", sum := "76b2db62e31aa045932f9ad336df7b5dd17dba6d91278f3584e04fe9617d00c5", func := "samaritan/samaritanlaw27.UnitstateSilence", spec := "unitstateSilence", apart := false, narrowed := true }
def UnitstateSilenceUptoSaid : Prop := unitstateSilenceUptoRow.holds Try.pinned (OpenSpec.upto unitstateSilenceSpec)

/-- 'samaritanlaw27.UnitstateStaleReports', WHERE WHAT IT READS IS OF BULK AT MOST 1048576: true; the input reads as it did. -/
def unitstateStaleReportsUptoRow : OpenClaim := { program := "ytmohhociomghhaa", sum := "76b2db62e31aa045932f9ad336df7b5dd17dba6d91278f3584e04fe9617d00c5", func := "samaritan/samaritanlaw27.UnitstateStaleReports", spec := "unitstateStaleReports", apart := false, narrowed := true }
def UnitstateStaleReportsUptoSaid : Prop := unitstateStaleReportsUptoRow.holds Try.pinned (OpenSpec.upto unitstateStaleReportsSpec)

/-- 'samaritanlaw27.UnitstateMatchesModel', WHERE WHAT IT READS IS OF BULK AT MOST 1048576: true; the input reads as it did. -/
def unitstateMatchesModelUptoRow : OpenClaim := { program := "ytmohhociomghhaa", sum := "76b2db62e31aa045932f9ad336df7b5dd17dba6d91278f3584e04fe9617d00c5", func := "samaritan/samaritanlaw27.UnitstateMatchesModel", spec := "unitstateMatchesModel", apart := false, narrowed := true }
def UnitstateMatchesModelUptoSaid : Prop := unitstateMatchesModelUptoRow.holds Try.pinned (OpenSpec.upto unitstateMatchesModelSpec)

end Rows
end Go.Proofs.Ytmohhociomghhaa
