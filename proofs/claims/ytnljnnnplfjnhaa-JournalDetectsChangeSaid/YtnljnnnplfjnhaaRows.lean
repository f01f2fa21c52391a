/-
  No cell of these rows narrows 'for every input' (looked for: loops, veiled, ifaces, maps, wideKeys, modest, calm, conditions, laid).
  DERIVED. THE GIVEN ROWS OF THIS SEAT. 7 by the template 'for every input the law returns true; each argument reads behind the call as it read before'; 0 by the template 'total and deterministic' (their statements: YtnljnnnplfjnhaaTotals.lean).
  GIVEN WITH THE SEED: the statements are not yours to turn. If you find one false, say at which input.
  Laid BY PROGRAM, IN A SANDBOX (cutbox-rows.mjs): the forced cells as the released guide's own fill.sh prints them over the translation 804037b82747b302… (all of the seat's roots in one cut). By AI agents, Wed Nov 11 2026. No macro, syntax, notation, axiom, sorry.
-/
import Derived.Test.YtnljnnnplfjnhaaChecked
import GoSem.Claim
import GoSem.ClaimJoined
import GoSem.ClaimMapViews
import Derived.JoinedTies
import Derived.KernelRfl
namespace Go.Proofs.Ytnljnnnplfjnhaa
/- THE CELL 'sum', in the pinned program and in every row, IS THE sha256 OF THE DUMP (.gsa) THAT YtnljnnnplfjnhaaProg.lean LOADS. Nothing in Lean hashes anything: it is a label: what it is worth is what the hold of that sum in a sandbox is worth. -/
noncomputable def Try.pinned : Pinned := { name := "ytnljnnnplfjnhaa", sum := "804037b82747b3020d8c8b25ab901bd1e1ac01efadd1651db58237eaed23e7b0", checked := Try.checked }
namespace Rows
def none {H : Type} : Left H := { results := [], args := [] }

/-- 'samaritanlaw20.JournalEncodes': WHATEVER THE INPUT: true; the input reads as it did. -/
def journalEncodesSpec : ChangeSpec := { name := "journalEncodes", fn := fun _ => fun
  | [d] => { results := [.lit (.bool true)], args := [d] }
  | _ => none }
def journalEncodesRow : OpenClaim := { program := "ytnljnnnplfjnhaa", sum := "804037b82747b3020d8c8b25ab901bd1e1ac01efadd1651db58237eaed23e7b0", func := "samaritan/samaritanlaw20.JournalEncodes", spec := "journalEncodes", apart := false }
def JournalEncodesSaid : Prop := journalEncodesRow.holds Try.pinned (OpenSpec.ofChange journalEncodesSpec)

/-- ITS FALSE NEIGHBOUR: 'it returns false'. Refute it at one input. -/
def journalEncodesWrong : ChangeSpec := { name := "journalEncodes", fn := fun _ => fun
  | [d] => { results := [.lit (.bool false)], args := [d] }
  | _ => none }
def JournalEncodesWrongFalsely : Prop := journalEncodesRow.holds Try.pinned (OpenSpec.ofChange journalEncodesWrong)

/-- 'samaritanlaw20.JournalVerifies': WHATEVER THE INPUT: true; the input reads as it did. -/
def journalVerifiesSpec : ChangeSpec := { name := "journalVerifies", fn := fun _ => fun
  | [d1, d2] => { results := [.lit (.bool true)], args := [d1, d2] }
  | _ => none }
def journalVerifiesRow : OpenClaim := { program := "ytnljnnnplfjnhaa", sum := "804037b82747b3020d8c8b25ab901bd1e1ac01efadd1651db58237eaed23e7b0", func := "samaritan/samaritanlaw20.JournalVerifies", spec := "journalVerifies", apart := false }
def JournalVerifiesSaid : Prop := journalVerifiesRow.holds Try.pinned (OpenSpec.ofChange journalVerifiesSpec)

/-- ITS FALSE NEIGHBOUR: 'it returns false'. Refute it at one input. -/
def journalVerifiesWrong : ChangeSpec := { name := "journalVerifies", fn := fun _ => fun
  | [d1, d2] => { results := [.lit (.bool false)], args := [d1, d2] }
  | _ => none }
def JournalVerifiesWrongFalsely : Prop := journalVerifiesRow.holds Try.pinned (OpenSpec.ofChange journalVerifiesWrong)

/-- 'samaritanlaw20.JournalOpensAnyBytes': WHATEVER THE INPUT: true; the input reads as it did. -/
def journalOpensAnyBytesSpec : ChangeSpec := { name := "journalOpensAnyBytes", fn := fun _ => fun
  | [d1, d2] => { results := [.lit (.bool true)], args := [d1, d2] }
  | _ => none }
def journalOpensAnyBytesRow : OpenClaim := { program := "ytnljnnnplfjnhaa", sum := "804037b82747b3020d8c8b25ab901bd1e1ac01efadd1651db58237eaed23e7b0", func := "samaritan/samaritanlaw20.JournalOpensAnyBytes", spec := "journalOpensAnyBytes", apart := false }
def JournalOpensAnyBytesSaid : Prop := journalOpensAnyBytesRow.holds Try.pinned (OpenSpec.ofChange journalOpensAnyBytesSpec)

/-- ITS FALSE NEIGHBOUR: 'it returns false'. Refute it at one input. -/
def journalOpensAnyBytesWrong : ChangeSpec := { name := "journalOpensAnyBytes", fn := fun _ => fun
  | [d1, d2] => { results := [.lit (.bool false)], args := [d1, d2] }
  | _ => none }
def JournalOpensAnyBytesWrongFalsely : Prop := journalOpensAnyBytesRow.holds Try.pinned (OpenSpec.ofChange journalOpensAnyBytesWrong)

/-- 'samaritanlaw20.JournalDetectsChange': WHATEVER THE INPUT: true; the input reads as it did. -/
def journalDetectsChangeSpec : ChangeSpec := { name := "journalDetectsChange", fn := fun _ => fun
  | [d1, d2, d3] => { results := [.lit (.bool true)], args := [d1, d2, d3] }
  | _ => none }
def journalDetectsChangeRow : OpenClaim := { program := "ytnljnnnplfjnhaa", sum := "804037b82747b3020d8c8b25ab901bd1e1ac01efadd1651db58237eaed23e7b0", func := "samaritan/samaritanlaw20.JournalDetectsChange", spec := "journalDetectsChange", apart := false }
def JournalDetectsChangeSaid : Prop := journalDetectsChangeRow.holds Try.pinned (OpenSpec.ofChange journalDetectsChangeSpec)

/-- ITS FALSE NEIGHBOUR: 'it returns false'. Refute it at one input. -/
def journalDetectsChangeWrong : ChangeSpec := { name := "journalDetectsChange", fn := fun _ => fun
  | [d1, d2, d3] => { results := [.lit (.bool false)], args := [d1, d2, d3] }
  | _ => none }
def JournalDetectsChangeWrongFalsely : Prop := journalDetectsChangeRow.holds Try.pinned (OpenSpec.ofChange journalDetectsChangeWrong)

/-- 'samaritanlaw20.JournalChecksums': WHATEVER THE INPUT: true; the input reads as it did. -/
def journalChecksumsSpec : ChangeSpec := { name := "journalChecksums", fn := fun _ => fun
  | [d1, d2] => { results := [.lit (.bool true)], args := [d1, d2] }
  | _ => none }
def journalChecksumsRow : OpenClaim := { program := "ytnljnnnplfjnhaa", sum := "804037b82747b3020d8c8b25ab901bd1e1ac01efadd1651db58237eaed23e7b0", func := "samaritan/samaritanlaw20.JournalChecksums", spec := "journalChecksums", apart := false }
def JournalChecksumsSaid : Prop := journalChecksumsRow.holds Try.pinned (OpenSpec.ofChange journalChecksumsSpec)

/-- ITS FALSE NEIGHBOUR: 'it returns false'. Refute it at one input. -/
def journalChecksumsWrong : ChangeSpec := { name := "journalChecksums", fn := fun _ => fun
  | [d1, d2] => { results := [.lit (.bool false)], args := [d1, d2] }
  | _ => none }
def JournalChecksumsWrongFalsely : Prop := journalChecksumsRow.holds Try.pinned (OpenSpec.ofChange journalChecksumsWrong)

/-- 'samaritanlaw20.JournalErrors': WHATEVER THE INPUT: true; the input reads as it did. -/
def journalErrorsSpec : ChangeSpec := { name := "journalErrors", fn := fun _ => fun
  | [d1, d2] => { results := [.lit (.bool true)], args := [d1, d2] }
  | _ => none }
def journalErrorsRow : OpenClaim := { program := "ytnljnnnplfjnhaa", sum := "804037b82747b3020d8c8b25ab901bd1e1ac01efadd1651db58237eaed23e7b0", func := "samaritan/samaritanlaw20.JournalErrors", spec := "journalErrors", apart := false }
def JournalErrorsSaid : Prop := journalErrorsRow.holds Try.pinned (OpenSpec.ofChange journalErrorsSpec)

/-- ITS FALSE NEIGHBOUR: 'it returns false'. Refute it at one input. -/
def journalErrorsWrong : ChangeSpec := { name := "journalErrors", fn := fun _ => fun
  | [d1, d2] => { results := [.lit (.bool false)], args := [d1, d2] }
  | _ => none }
def JournalErrorsWrongFalsely : Prop := journalErrorsRow.holds Try.pinned (OpenSpec.ofChange journalErrorsWrong)

/-- 'samaritanlaw20.JournalSurvivesPowerFailure': WHATEVER THE INPUT: true; the input reads as it did. -/
def journalSurvivesPowerFailureSpec : ChangeSpec := { name := "journalSurvivesPowerFailure", fn := fun _ => fun
  | [d1, d2, d3] => { results := [.lit (.bool true)], args := [d1, d2, d3] }
  | _ => none }
def journalSurvivesPowerFailureRow : OpenClaim := { program := "ytnljnnnplfjnhaa", sum := "804037b82747b3020d8c8b25ab901bd1e1ac01efadd1651db58237eaed23e7b0", func := "samaritan/samaritanlaw20.JournalSurvivesPowerFailure", spec := "journalSurvivesPowerFailure", apart := false }
def JournalSurvivesPowerFailureSaid : Prop := journalSurvivesPowerFailureRow.holds Try.pinned (OpenSpec.ofChange journalSurvivesPowerFailureSpec)

/-- ITS FALSE NEIGHBOUR: 'it returns false'. Refute it at one input. -/
def journalSurvivesPowerFailureWrong : ChangeSpec := { name := "journalSurvivesPowerFailure", fn := fun _ => fun
  | [d1, d2, d3] => { results := [.lit (.bool false)], args := [d1, d2, d3] }
  | _ => none }
def JournalSurvivesPowerFailureWrongFalsely : Prop := journalSurvivesPowerFailureRow.holds Try.pinned (OpenSpec.ofChange journalSurvivesPowerFailureWrong)

/- THE SECOND FORM. 'bulk': how many values and letters a reading holds, each counted each time it is reached (what is shared counts as often as it is met; a slice's spare places count too). A statement '..UptoSaid' is the law's where the arguments, and the package variables that the reading takes, are together of bulk at most 1048576: NARROWER than '..Said'. Prove '..Said' where nothing that the law and all that it calls make is longer than what came in: it says more and counts as full. Else prove '..UptoSaid'. A law counts once. -/
mutual
def uptoBulk {H : Type} : DataW H → Nat
  | .lit (.string bytes) => bytes.length + 1
  | .lit _ => 1
  | .nil => 1
  | .ptr d => uptoBulk d + 1
  | .slice elems spare => uptoBulkAll elems + uptoBulkAll spare + 1
  | .agg parts => uptoBulkAll parts + 1
  | .iface _ d => uptoBulk d + 1
  | .map entries => uptoBulkEntries entries + 1
  | .held _ => 1
def uptoBulkAll {H : Type} : List (DataW H) → Nat
  | [] => 0
  | d :: r => uptoBulk d + uptoBulkAll r
def uptoBulkEntries {H : Type} : List (Lit × DataW H) → Nat
  | [] => 0
  | x :: r => uptoBulkEntry x + uptoBulkEntries r
def uptoBulkEntry {H : Type} : Lit × DataW H → Nat
  | (.string bytes, d) => bytes.length + uptoBulk d + 1
  | (_, d) => uptoBulk d + 1
 end
def uptoSmall : (H : Type) → List (DataW H) → Bool := fun _ ds => decide (uptoBulkAll ds ≤ 1048576)
def OpenSpec.upto (s : _root_.Go.ChangeSpec) : _root_.Go.OpenSpec := { _root_.Go.OpenSpec.ofChange s with cond := some uptoSmall }

/-- 'samaritanlaw20.JournalEncodes', WHERE WHAT IT READS IS OF BULK AT MOST 1048576: true; the input reads as it did. -/
def journalEncodesUptoRow : OpenClaim := { program := "ytnljnnnplfjnhaa", sum := "804037b82747b3020d8c8b25ab901bd1e1ac01efadd1651db58237eaed23e7b0", func := "samaritan/samaritanlaw20.JournalEncodes", spec := "journalEncodes", apart := false, narrowed := true }
def JournalEncodesUptoSaid : Prop := journalEncodesUptoRow.holds Try.pinned (OpenSpec.upto journalEncodesSpec)

/-- 'samaritanlaw20.JournalVerifies', WHERE WHAT IT READS IS OF BULK AT MOST 1048576: true; the input reads as it did. -/
def journalVerifiesUptoRow : OpenClaim := { program := "ytnljnnnplfjnhaa", sum := "804037b82747b3020d8c8b25ab901bd1e1ac01efadd1651db58237eaed23e7b0", func := "samaritan/samaritanlaw20.JournalVerifies", spec := "journalVerifies", apart := false, narrowed := true }
def JournalVerifiesUptoSaid : Prop := journalVerifiesUptoRow.holds Try.pinned (OpenSpec.upto journalVerifiesSpec)

/-- 'samaritanlaw20.JournalOpensAnyBytes', WHERE WHAT IT READS IS OF BULK AT MOST 1048576: true; the input reads as it did. -/
def journalOpensAnyBytesUptoRow : OpenClaim := { program := "ytnljnnnplfjnhaa", sum := "804037b82747b3020d8c8b25ab901bd1e1ac01efadd1651db58237eaed23e7b0", func := "samaritan/samaritanlaw20.JournalOpensAnyBytes", spec := "journalOpensAnyBytes", apart := false, narrowed := true }
def JournalOpensAnyBytesUptoSaid : Prop := journalOpensAnyBytesUptoRow.holds Try.pinned (OpenSpec.upto journalOpensAnyBytesSpec)

/-- 'samaritanlaw20.JournalDetectsChange', WHERE WHAT IT READS IS OF BULK AT MOST 1048576: true; the input reads as it did. -/
def journalDetectsChangeUptoRow : OpenClaim := { program := "ytnljnnnplfjnhaa", sum := "804037b82747b3020d8c8b25ab901bd1e1ac01efadd1651db58237eaed23e7b0", func := "samaritan/samaritanlaw20.JournalDetectsChange", spec := "journalDetectsChange", apart := false, narrowed := true }
def JournalDetectsChangeUptoSaid : Prop := journalDetectsChangeUptoRow.holds Try.pinned (OpenSpec.upto journalDetectsChangeSpec)

/-- 'samaritanlaw20.JournalChecksums', WHERE WHAT IT READS IS OF BULK AT MOST 1048576: true; the input reads as it did. -/
def journalChecksumsUptoRow : OpenClaim := { program := "ytnljnnnplfjnhaa", sum := "804037b82747b3020d8c8b25ab901bd1e1ac01efadd1651db58237eaed23e7b0", func := "samaritan/samaritanlaw20.JournalChecksums", spec := "journalChecksums", apart := false, narrowed := true }
def JournalChecksumsUptoSaid : Prop := journalChecksumsUptoRow.holds Try.pinned (OpenSpec.upto journalChecksumsSpec)

/-- 'samaritanlaw20.JournalErrors', WHERE WHAT IT READS IS OF BULK AT MOST 1048576: true; the input reads as it did. -/
def journalErrorsUptoRow : OpenClaim := { program := "ytnljnnnplfjnhaa", sum := "804037b82747b3020d8c8b25ab901bd1e1ac01efadd1651db58237eaed23e7b0", func := "samaritan/samaritanlaw20.JournalErrors", spec := "journalErrors", apart := false, narrowed := true }
def JournalErrorsUptoSaid : Prop := journalErrorsUptoRow.holds Try.pinned (OpenSpec.upto journalErrorsSpec)

/-- 'samaritanlaw20.JournalSurvivesPowerFailure', WHERE WHAT IT READS IS OF BULK AT MOST 1048576: true; the input reads as it did. -/
def journalSurvivesPowerFailureUptoRow : OpenClaim := { program := "ytnljnnnplfjnhaa", sum := "804037b82747b3020d8c8b25ab901bd1e1ac01efadd1651db58237eaed23e7b0", func := "samaritan/samaritanlaw20.JournalSurvivesPowerFailure", spec := "journalSurvivesPowerFailure", apart := false, narrowed := true }
def JournalSurvivesPowerFailureUptoSaid : Prop := journalSurvivesPowerFailureUptoRow.holds Try.pinned (OpenSpec.upto journalSurvivesPowerFailureSpec)

end Rows
end Go.Proofs.Ytnljnnnplfjnhaa
