/-
  No cell of these rows narrows 'for every input' (looked for: loops, veiled, ifaces, maps, wideKeys, modest, calm, conditions, laid).
  DERIVED. THE GIVEN ROWS OF THIS SEAT. 6 by the template 'for every input the law returns true; each argument reads behind the call as it read before'; 0 by the template 'total and deterministic' (their statements: YtgmhcfhmpjpomaaTotals.lean).
  GIVEN WITH THE SEED: the statements are not yours to turn. If you find one false, say at which input.
  Laid BY PROGRAM, IN A SANDBOX (cutbox-rows.mjs): the forced cells as the released guide's own fill.sh prints them over the translation 1dfcde972c569467… (all of the seat's roots in one cut). By AI agents, Wed Nov 11 2026. No macro, syntax, notation, axiom, sorry.
-/
import Derived.Test.YtgmhcfhmpjpomaaChecked
import GoSem.Claim
import GoSem.ClaimJoined
import GoSem.ClaimMapViews
import Derived.JoinedTies
import Derived.KernelRfl
namespace Go.Proofs.Ytgmhcfhmpjpomaa
/- THE CELL 'sum', in the pinned program and in every row, IS THE sha256 OF THE DUMP (.gsa) THAT YtgmhcfhmpjpomaaProg.lean LOADS. Nothing in Lean hashes anything: it is a label: what it is worth is what the hold of that sum in a sandbox is worth. -/
noncomputable def Try.pinned : Pinned := { name := "ytgmhcfhmpjpomaa", sum := "1dfcde972c569467862945f754ec283634cad5ad8d28e56e69832d948b79d397", checked := Try.checked }
namespace Rows
def none {H : Type} : Left H := { results := [], args := [] }

/-- 'samaritanlaw49.HistoryAppend': WHATEVER THE INPUT: true; the input reads as it did. -/
def historyAppendSpec : ChangeSpec := { name := "historyAppend", fn := fun _ => fun
  | [d] => { results := [.lit (.bool true)], args := [d] }
  | _ => none }
def historyAppendRow : OpenClaim := { program := "ytgmhcfhmpjpomaa", sum := "1dfcde972c569467862945f754ec283634cad5ad8d28e56e69832d948b79d397", func := "samaritan/samaritanlaw49.HistoryAppend", spec := "historyAppend", apart := false }
def HistoryAppendSaid : Prop := historyAppendRow.holds Try.pinned (OpenSpec.ofChange historyAppendSpec)

/-- ITS FALSE NEIGHBOUR: 'it returns false'. Refute it at one input. -/
def historyAppendWrong : ChangeSpec := { name := "historyAppend", fn := fun _ => fun
  | [d] => { results := [.lit (.bool false)], args := [d] }
  | _ => none }
def HistoryAppendWrongFalsely : Prop := historyAppendRow.holds Try.pinned (OpenSpec.ofChange historyAppendWrong)

/-- 'samaritanlaw49.HistoryAt': WHATEVER THE INPUT: true; the input reads as it did. -/
def historyAtSpec : ChangeSpec := { name := "historyAt", fn := fun _ => fun
  | [d1, d2] => { results := [.lit (.bool true)], args := [d1, d2] }
  | _ => none }
def historyAtRow : OpenClaim := { program := "ytgmhcfhmpjpomaa", sum := "1dfcde972c569467862945f754ec283634cad5ad8d28e56e69832d948b79d397", func := "samaritan/samaritanlaw49.HistoryAt", spec := "historyAt", apart := false }
def HistoryAtSaid : Prop := historyAtRow.holds Try.pinned (OpenSpec.ofChange historyAtSpec)

/-- ITS FALSE NEIGHBOUR: 'it returns false'. Refute it at one input. -/
def historyAtWrong : ChangeSpec := { name := "historyAt", fn := fun _ => fun
  | [d1, d2] => { results := [.lit (.bool false)], args := [d1, d2] }
  | _ => none }
def HistoryAtWrongFalsely : Prop := historyAtRow.holds Try.pinned (OpenSpec.ofChange historyAtWrong)

/-- 'samaritanlaw49.HistoryVerify': WHATEVER THE INPUT: true; the input reads as it did. -/
def historyVerifySpec : ChangeSpec := { name := "historyVerify", fn := fun _ => fun
  | [d] => { results := [.lit (.bool true)], args := [d] }
  | _ => none }
def historyVerifyRow : OpenClaim := { program := "ytgmhcfhmpjpomaa", sum := "1dfcde972c569467862945f754ec283634cad5ad8d28e56e69832d948b79d397", func := "samaritan/samaritanlaw49.HistoryVerify", spec := "historyVerify", apart := false }
def HistoryVerifySaid : Prop := historyVerifyRow.holds Try.pinned (OpenSpec.ofChange historyVerifySpec)

/-- ITS FALSE NEIGHBOUR: 'it returns false'. Refute it at one input. -/
def historyVerifyWrong : ChangeSpec := { name := "historyVerify", fn := fun _ => fun
  | [d] => { results := [.lit (.bool false)], args := [d] }
  | _ => none }
def HistoryVerifyWrongFalsely : Prop := historyVerifyRow.holds Try.pinned (OpenSpec.ofChange historyVerifyWrong)

/-- 'samaritanlaw49.HistoryDivergence': WHATEVER THE INPUT: true; the input reads as it did. -/
def historyDivergenceSpec : ChangeSpec := { name := "historyDivergence", fn := fun _ => fun
  | [d1, d2] => { results := [.lit (.bool true)], args := [d1, d2] }
  | _ => none }
def historyDivergenceRow : OpenClaim := { program := "ytgmhcfhmpjpomaa", sum := "1dfcde972c569467862945f754ec283634cad5ad8d28e56e69832d948b79d397", func := "samaritan/samaritanlaw49.HistoryDivergence", spec := "historyDivergence", apart := false }
def HistoryDivergenceSaid : Prop := historyDivergenceRow.holds Try.pinned (OpenSpec.ofChange historyDivergenceSpec)

/-- ITS FALSE NEIGHBOUR: 'it returns false'. Refute it at one input. -/
def historyDivergenceWrong : ChangeSpec := { name := "historyDivergence", fn := fun _ => fun
  | [d1, d2] => { results := [.lit (.bool false)], args := [d1, d2] }
  | _ => none }
def HistoryDivergenceWrongFalsely : Prop := historyDivergenceRow.holds Try.pinned (OpenSpec.ofChange historyDivergenceWrong)

/-- 'samaritanlaw49.HistoryModified': WHATEVER THE INPUT: true; the input reads as it did. -/
def historyModifiedSpec : ChangeSpec := { name := "historyModified", fn := fun _ => fun
  | [d1, d2] => { results := [.lit (.bool true)], args := [d1, d2] }
  | _ => none }
def historyModifiedRow : OpenClaim := { program := "ytgmhcfhmpjpomaa", sum := "1dfcde972c569467862945f754ec283634cad5ad8d28e56e69832d948b79d397", func := "samaritan/samaritanlaw49.HistoryModified", spec := "historyModified", apart := false }
def HistoryModifiedSaid : Prop := historyModifiedRow.holds Try.pinned (OpenSpec.ofChange historyModifiedSpec)

/-- ITS FALSE NEIGHBOUR: 'it returns false'. Refute it at one input. -/
def historyModifiedWrong : ChangeSpec := { name := "historyModified", fn := fun _ => fun
  | [d1, d2] => { results := [.lit (.bool false)], args := [d1, d2] }
  | _ => none }
def HistoryModifiedWrongFalsely : Prop := historyModifiedRow.holds Try.pinned (OpenSpec.ofChange historyModifiedWrong)

/-- 'samaritanlaw49.HistoryAppendOnly': WHATEVER THE INPUT: true; the input reads as it did. -/
def historyAppendOnlySpec : ChangeSpec := { name := "historyAppendOnly", fn := fun _ => fun
  | [d1, d2] => { results := [.lit (.bool true)], args := [d1, d2] }
  | _ => none }
def historyAppendOnlyRow : OpenClaim := { program := "ytgmhcfhmpjpomaa", sum := "1dfcde972c569467862945f754ec283634cad5ad8d28e56e69832d948b79d397", func := "samaritan/samaritanlaw49.HistoryAppendOnly", spec := "historyAppendOnly", apart := false }
def HistoryAppendOnlySaid : Prop := historyAppendOnlyRow.holds Try.pinned (OpenSpec.ofChange historyAppendOnlySpec)

/-- ITS FALSE NEIGHBOUR: 'it returns false'. Refute it at one input. -/
def historyAppendOnlyWrong : ChangeSpec := { name := "historyAppendOnly", fn := fun _ => fun
  | [d1, d2] => { results := [.lit (.bool false)], args := [d1, d2] }
  | _ => none }
def HistoryAppendOnlyWrongFalsely : Prop := historyAppendOnlyRow.holds Try.pinned (OpenSpec.ofChange historyAppendOnlyWrong)

/- THE SECOND FORM. 'bulk': how many values and letters a reading holds, each counted each time it is reached (what is shared counts as often as it is met; a slice's spare places count too). A statement '..UptoSaid' is the law's where the arguments, and the package variables that the reading takes, are together of bulk at most 1048576: NARROWER than '..Said'. Prove '..Said' where nothing that the law and all that it calls make is longer than what came in: it says more and counts as full. Else prove '..UptoSaid'. A law counts once. -/
mutual
def uptoBulk {H : Type} : DataW H → Nat
  | .lit (.string bytes) => bytes.length + 1
  | .lit _ => 1
  | .nil => 1
  | .ptr d => uptoBulk d + 1
  | .slice elems spare => uptoBulkAll elems + uptoBulkAll spare + 1
  | .agg parts => uptoBulkAll parts + 1
  | .iface _ d => uptoBulk d + 1
  | .map entries => uptoBulkEntries entries + 1
  | .held _ => 1
def uptoBulkAll {H : Type} : List (DataW H) → Nat
  | [] => 0
  | d :: r => uptoBulk d + uptoBulkAll r
def uptoBulkEntries {H : Type} : List (Lit × DataW H) → Nat
  | [] => 0
  | x :: r => uptoBulkEntry x + uptoBulkEntries r
def uptoBulkEntry {H : Type} : Lit × DataW H → Nat
  | (.string bytes, d) => bytes.length + uptoBulk d + 1
  | (_, d) => uptoBulk d + 1
 end
def uptoSmall : (H : Type) → List (DataW H) → Bool := fun _ ds => decide (uptoBulkAll ds ≤ 1048576)
def OpenSpec.upto (s : _root_.Go.ChangeSpec) : _root_.Go.OpenSpec := { _root_.Go.OpenSpec.ofChange s with cond := some uptoSmall }

/-- 'samaritanlaw49.HistoryAppend', WHERE WHAT IT READS IS OF BULK AT MOST 1048576: true; the input reads as it did. -/
def historyAppendUptoRow : OpenClaim := { program := "ytgmhcfhmpjpomaa", sum := "1dfcde972c569467862945f754ec283634cad5ad8d28e56e69832d948b79d397", func := "samaritan/samaritanlaw49.HistoryAppend", spec := "historyAppend", apart := false, narrowed := true }
def HistoryAppendUptoSaid : Prop := historyAppendUptoRow.holds Try.pinned (OpenSpec.upto historyAppendSpec)

/-- 'samaritanlaw49.HistoryAt', WHERE WHAT IT READS IS OF BULK AT MOST 1048576: true; the input reads as it did. -/
def historyAtUptoRow : OpenClaim := { program := "ytgmhcfhmpjpomaa", sum := "1dfcde972c569467862945f754ec283634cad5ad8d28e56e69832d948b79d397", func := "samaritan/samaritanlaw49.HistoryAt", spec := "historyAt", apart := false, narrowed := true }
def HistoryAtUptoSaid : Prop := historyAtUptoRow.holds Try.pinned (OpenSpec.upto historyAtSpec)

/-- 'samaritanlaw49.HistoryVerify', WHERE WHAT IT READS IS OF BULK AT MOST 1048576: true; the input reads as it did. -/
def historyVerifyUptoRow : OpenClaim := { program := "ytgmhcfhmpjpomaa", sum := "1dfcde972c569467862945f754ec283634cad5ad8d28e56e69832d948b79d397", func := "samaritan/samaritanlaw49.HistoryVerify", spec := "historyVerify", apart := false, narrowed := true }
def HistoryVerifyUptoSaid : Prop := historyVerifyUptoRow.holds Try.pinned (OpenSpec.upto historyVerifySpec)

/-- 'samaritanlaw49.HistoryDivergence', WHERE WHAT IT READS IS OF BULK AT MOST 1048576: true; the input reads as it did. -/
def historyDivergenceUptoRow : OpenClaim := { program := "ytgmhcfhmpjpomaa", sum := "1dfcde972c569467862945f754ec283634cad5ad8d28e56e69832d948b79d397", func := "samaritan/samaritanlaw49.HistoryDivergence", spec := "historyDivergence", apart := false, narrowed := true }
def HistoryDivergenceUptoSaid : Prop := historyDivergenceUptoRow.holds Try.pinned (OpenSpec.upto historyDivergenceSpec)

/-- 'samaritanlaw49.HistoryModified', WHERE WHAT IT READS IS OF BULK AT MOST 1048576: true; the input reads as it did. -/
def historyModifiedUptoRow : OpenClaim := { program := "ytgmhcfhmpjpomaa", sum := "1dfcde972c569467862945f754ec283634cad5ad8d28e56e69832d948b79d397", func := "samaritan/samaritanlaw49.HistoryModified", spec := "historyModified", apart := false, narrowed := true }
def HistoryModifiedUptoSaid : Prop := historyModifiedUptoRow.holds Try.pinned (OpenSpec.upto historyModifiedSpec)

/-- 'samaritanlaw49.HistoryAppendOnly', WHERE WHAT IT READS IS OF BULK AT MOST 1048576: true; the input reads as it did. -/
def historyAppendOnlyUptoRow : OpenClaim := { program := "ytgmhcfhmpjpomaa", sum := "1dfcde972c569467862945f754ec283634cad5ad8d28e56e69832d948b79d397", func := "samaritan/samaritanlaw49.HistoryAppendOnly", spec := "historyAppendOnly", apart := false, narrowed := true }
def HistoryAppendOnlyUptoSaid : Prop := historyAppendOnlyUptoRow.holds Try.pinned (OpenSpec.upto historyAppendOnlySpec)

end Rows
end Go.Proofs.Ytgmhcfhmpjpomaa
