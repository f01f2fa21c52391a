/-
  No cell of these rows narrows 'for every input' (looked for: loops, veiled, ifaces, maps, wideKeys, modest, calm, conditions, laid).
  DERIVED. THE GIVEN ROWS OF THIS SEAT. 6 by the template 'for every input the law returns true; each argument reads behind the call as it read before'; 0 by the template 'total and deterministic' (their statements: YtmabbdkckdpeoabTotals.lean).
  GIVEN WITH THE SEED: the statements are not yours to turn. If you find one false, say at which input.
  Laid BY PROGRAM, IN A SANDBOX (cutbox-rows.mjs): the forced cells as the released guide's own fill.sh prints them over the translation f5dfb8433177b024… (all of the seat's roots in one cut). By AI agents, Wed Nov 11 2026. No macro, syntax, notation, axiom, sorry.
-/
import Derived.Test.YtmabbdkckdpeoabChecked
import GoSem.Claim
import GoSem.ClaimJoined
import GoSem.ClaimMapViews
import Derived.JoinedTies
import Derived.KernelRfl
namespace Go.Proofs.Ytmabbdkckdpeoab
/- THE CELL 'sum', in the pinned program and in every row, IS THE sha256 OF THE DUMP (.gsa) THAT YtmabbdkckdpeoabProg.lean LOADS. Nothing in Lean hashes anything: it is a label: what it is worth is what the hold of that sum in a sandbox is worth. -/
noncomputable def Try.pinned : Pinned := { name := "ytmabbdkckdpeoab", sum := "f5dfb8433177b0244e1767fd21289333858156855c92ef0cd8a8f41b24d08a99", checked := Try.checked }
namespace Rows
def none {H : Type} : Left H := { results := [], args := [] }

/-- 'samaritanlaw04.ChecksumSums': WHATEVER THE INPUT: true; the input reads as it did. -/
def checksumSumsSpec : ChangeSpec := { name := "checksumSums", fn := fun _ => fun
  | [d1, d2] => { results := [.lit (.bool true)], args := [d1, d2] }
  | _ => none }
def checksumSumsRow : OpenClaim := { program := "ytmabbdkckdpeoab", sum := "f5dfb8433177b0244e1767fd21289333858156855c92ef0cd8a8f41b24d08a99", func := "samaritan/samaritanlaw04.ChecksumSums", spec := "checksumSums", apart := false }
def ChecksumSumsSaid : Prop := checksumSumsRow.holds Try.pinned (OpenSpec.ofChange checksumSumsSpec)

/-- ITS FALSE NEIGHBOUR: 'it returns false'. Refute it at one input. -/
def checksumSumsWrong : ChangeSpec := { name := "checksumSums", fn := fun _ => fun
  | [d1, d2] => { results := [.lit (.bool false)], args := [d1, d2] }
  | _ => none }
def ChecksumSumsWrongFalsely : Prop := checksumSumsRow.holds Try.pinned (OpenSpec.ofChange checksumSumsWrong)

/-- 'samaritanlaw04.ChecksumFormats': WHATEVER THE INPUT: true; the input reads as it did. -/
def checksumFormatsSpec : ChangeSpec := { name := "checksumFormats", fn := fun _ => fun
  | [d1, d2] => { results := [.lit (.bool true)], args := [d1, d2] }
  | _ => none }
def checksumFormatsRow : OpenClaim := { program := "ytmabbdkckdpeoab", sum := "f5dfb8433177b0244e1767fd21289333858156855c92ef0cd8a8f41b24d08a99", func := "samaritan/samaritanlaw04.ChecksumFormats", spec := "checksumFormats", apart := false }
def ChecksumFormatsSaid : Prop := checksumFormatsRow.holds Try.pinned (OpenSpec.ofChange checksumFormatsSpec)

/-- ITS FALSE NEIGHBOUR: 'it returns false'. Refute it at one input. -/
def checksumFormatsWrong : ChangeSpec := { name := "checksumFormats", fn := fun _ => fun
  | [d1, d2] => { results := [.lit (.bool false)], args := [d1, d2] }
  | _ => none }
def ChecksumFormatsWrongFalsely : Prop := checksumFormatsRow.holds Try.pinned (OpenSpec.ofChange checksumFormatsWrong)

/-- 'samaritanlaw04.ChecksumConcatenates': WHATEVER THE INPUT: true; the input reads as it did. -/
def checksumConcatenatesSpec : ChangeSpec := { name := "checksumConcatenates", fn := fun _ => fun
  | [d1, d2] => { results := [.lit (.bool true)], args := [d1, d2] }
  | _ => none }
def checksumConcatenatesRow : OpenClaim := { program := "ytmabbdkckdpeoab", sum := "f5dfb8433177b0244e1767fd21289333858156855c92ef0cd8a8f41b24d08a99", func := "samaritan/samaritanlaw04.ChecksumConcatenates", spec := "checksumConcatenates", apart := false }
def ChecksumConcatenatesSaid : Prop := checksumConcatenatesRow.holds Try.pinned (OpenSpec.ofChange checksumConcatenatesSpec)

/-- ITS FALSE NEIGHBOUR: 'it returns false'. Refute it at one input. -/
def checksumConcatenatesWrong : ChangeSpec := { name := "checksumConcatenates", fn := fun _ => fun
  | [d1, d2] => { results := [.lit (.bool false)], args := [d1, d2] }
  | _ => none }
def ChecksumConcatenatesWrongFalsely : Prop := checksumConcatenatesRow.holds Try.pinned (OpenSpec.ofChange checksumConcatenatesWrong)

/-- 'samaritanlaw04.ChecksumIsInjective': WHATEVER THE INPUT: true; the input reads as it did. -/
def checksumIsInjectiveSpec : ChangeSpec := { name := "checksumIsInjective", fn := fun _ => fun
  | [d1, d2, d3] => { results := [.lit (.bool true)], args := [d1, d2, d3] }
  | _ => none }
def checksumIsInjectiveRow : OpenClaim := { program := "ytmabbdkckdpeoab", sum := "f5dfb8433177b0244e1767fd21289333858156855c92ef0cd8a8f41b24d08a99", func := "samaritan/samaritanlaw04.ChecksumIsInjective", spec := "checksumIsInjective", apart := false }
def ChecksumIsInjectiveSaid : Prop := checksumIsInjectiveRow.holds Try.pinned (OpenSpec.ofChange checksumIsInjectiveSpec)

/-- ITS FALSE NEIGHBOUR: 'it returns false'. Refute it at one input. -/
def checksumIsInjectiveWrong : ChangeSpec := { name := "checksumIsInjective", fn := fun _ => fun
  | [d1, d2, d3] => { results := [.lit (.bool false)], args := [d1, d2, d3] }
  | _ => none }
def ChecksumIsInjectiveWrongFalsely : Prop := checksumIsInjectiveRow.holds Try.pinned (OpenSpec.ofChange checksumIsInjectiveWrong)

/-- 'samaritanlaw04.ChecksumChains': WHATEVER THE INPUT: true; the input reads as it did. -/
def checksumChainsSpec : ChangeSpec := { name := "checksumChains", fn := fun _ => fun
  | [d1, d2, d3] => { results := [.lit (.bool true)], args := [d1, d2, d3] }
  | _ => none }
def checksumChainsRow : OpenClaim := { program := "ytmabbdkckdpeoab", sum := "f5dfb8433177b0244e1767fd21289333858156855c92ef0cd8a8f41b24d08a99", func := "samaritan/samaritanlaw04.ChecksumChains", spec := "checksumChains", apart := false }
def ChecksumChainsSaid : Prop := checksumChainsRow.holds Try.pinned (OpenSpec.ofChange checksumChainsSpec)

/-- ITS FALSE NEIGHBOUR: 'it returns false'. Refute it at one input. -/
def checksumChainsWrong : ChangeSpec := { name := "checksumChains", fn := fun _ => fun
  | [d1, d2, d3] => { results := [.lit (.bool false)], args := [d1, d2, d3] }
  | _ => none }
def ChecksumChainsWrongFalsely : Prop := checksumChainsRow.holds Try.pinned (OpenSpec.ofChange checksumChainsWrong)

/-- 'samaritanlaw04.ChecksumDetectsChange': WHATEVER THE INPUT: true; the input reads as it did. -/
def checksumDetectsChangeSpec : ChangeSpec := { name := "checksumDetectsChange", fn := fun _ => fun
  | [d1, d2, d3] => { results := [.lit (.bool true)], args := [d1, d2, d3] }
  | _ => none }
def checksumDetectsChangeRow : OpenClaim := { program := "ytmabbdkckdpeoab", sum := "f5dfb8433177b0244e1767fd21289333858156855c92ef0cd8a8f41b24d08a99", func := "samaritan/samaritanlaw04.ChecksumDetectsChange", spec := "checksumDetectsChange", apart := false }
def ChecksumDetectsChangeSaid : Prop := checksumDetectsChangeRow.holds Try.pinned (OpenSpec.ofChange checksumDetectsChangeSpec)

/-- ITS FALSE NEIGHBOUR: 'it returns false'. Refute it at one input. -/
def checksumDetectsChangeWrong : ChangeSpec := { name := "checksumDetectsChange", fn := fun _ => fun
  | [d1, d2, d3] => { results := [.lit (.bool false)], args := [d1, d2, d3] }
  | _ => none }
def ChecksumDetectsChangeWrongFalsely : Prop := checksumDetectsChangeRow.holds Try.pinned (OpenSpec.ofChange checksumDetectsChangeWrong)

/- THE SECOND FORM. 'bulk': how many values and letters a reading holds, each counted each time it is reached (what is shared counts as often as it is met; a slice's spare places count too). A statement '..UptoSaid' is the law's where the arguments, and the package variables that the reading takes, are together of bulk at most 1048576: NARROWER than '..Said'. Prove '..Said' where nothing that the law and all that it calls make is longer than what came in: it says more and counts as full. Else prove '..UptoSaid'. A law counts once. -/
mutual
def uptoBulk {H : Type} : DataW H → Nat
  | .lit (.string bytes) => bytes.length + 1
  | .lit _ => 1
  | .nil => 1
  | .ptr d => uptoBulk d + 1
  | .slice elems spare => uptoBulkAll elems + uptoBulkAll spare + 1
  | .agg parts => uptoBulkAll parts + 1
  | .iface _ d => uptoBulk d + 1
  | .map entries => uptoBulkEntries entries + 1
  | .held _ => 1
def uptoBulkAll {H : Type} : List (DataW H) → Nat
  | [] => 0
  | d :: r => uptoBulk d + uptoBulkAll r
def uptoBulkEntries {H : Type} : List (Lit × DataW H) → Nat
  | [] => 0
  | x :: r => uptoBulkEntry x + uptoBulkEntries r
def uptoBulkEntry {H : Type} : Lit × DataW H → Nat
  | (.string bytes, d) => bytes.length + uptoBulk d + 1
  | (_, d) => uptoBulk d + 1
 end
def uptoSmall : (H : Type) → List (DataW H) → Bool := fun _ ds => decide (uptoBulkAll ds ≤ 1048576)
def OpenSpec.upto (s : _root_.Go.ChangeSpec) : _root_.Go.OpenSpec := { _root_.Go.OpenSpec.ofChange s with cond := some uptoSmall }

/-- 'samaritanlaw04.ChecksumSums', WHERE WHAT IT READS IS OF BULK AT MOST 1048576: true; the input reads as it did. -/
def checksumSumsUptoRow : OpenClaim := { program := "ytmabbdkckdpeoab", sum := "f5dfb8433177b0244e1767fd21289333858156855c92ef0cd8a8f41b24d08a99", func := "samaritan/samaritanlaw04.ChecksumSums", spec := "checksumSums", apart := false, narrowed := true }
def ChecksumSumsUptoSaid : Prop := checksumSumsUptoRow.holds Try.pinned (OpenSpec.upto checksumSumsSpec)

/-- 'samaritanlaw04.ChecksumFormats', WHERE WHAT IT READS IS OF BULK AT MOST 1048576: true; the input reads as it did. -/
def checksumFormatsUptoRow : OpenClaim := { program := "ytmabbdkckdpeoab", sum := "f5dfb8433177b0244e1767fd21289333858156855c92ef0cd8a8f41b24d08a99", func := "samaritan/samaritanlaw04.ChecksumFormats", spec := "checksumFormats", apart := false, narrowed := true }
def ChecksumFormatsUptoSaid : Prop := checksumFormatsUptoRow.holds Try.pinned (OpenSpec.upto checksumFormatsSpec)

/-- 'samaritanlaw04.ChecksumConcatenates', WHERE WHAT IT READS IS OF BULK AT MOST 1048576: true; the input reads as it did. -/
def checksumConcatenatesUptoRow : OpenClaim := { program := "ytmabbdkckdpeoab", sum := "f5dfb8433177b0244e1767fd21289333858156855c92ef0cd8a8f41b24d08a99", func := "samaritan/samaritanlaw04.ChecksumConcatenates", spec := "checksumConcatenates", apart := false, narrowed := true }
def ChecksumConcatenatesUptoSaid : Prop := checksumConcatenatesUptoRow.holds Try.pinned (OpenSpec.upto checksumConcatenatesSpec)

/-- 'samaritanlaw04.ChecksumIsInjective', WHERE WHAT IT READS IS OF BULK AT MOST 1048576: true; the input reads as it did. -/
def checksumIsInjectiveUptoRow : OpenClaim := { program := "ytmabbdkckdpeoab", sum := "f5dfb8433177b0244e1767fd21289333858156855c92ef0cd8a8f41b24d08a99", func := "samaritan/samaritanlaw04.ChecksumIsInjective", spec := "checksumIsInjective", apart := false, narrowed := true }
def ChecksumIsInjectiveUptoSaid : Prop := checksumIsInjectiveUptoRow.holds Try.pinned (OpenSpec.upto checksumIsInjectiveSpec)

/-- 'samaritanlaw04.ChecksumChains', WHERE WHAT IT READS IS OF BULK AT MOST 1048576: true; the input reads as it did. -/
def checksumChainsUptoRow : OpenClaim := { program := "ytmabbdkckdpeoab", sum := "f5dfb8433177b0244e1767fd21289333858156855c92ef0cd8a8f41b24d08a99", func := "samaritan/samaritanlaw04.ChecksumChains", spec := "checksumChains", apart := false, narrowed := true }
def ChecksumChainsUptoSaid : Prop := checksumChainsUptoRow.holds Try.pinned (OpenSpec.upto checksumChainsSpec)

/-- 'samaritanlaw04.ChecksumDetectsChange', WHERE WHAT IT READS IS OF BULK AT MOST 1048576: true; the input reads as it did. -/
def checksumDetectsChangeUptoRow : OpenClaim := { program := "ytmabbdkckdpeoab", sum := "f5dfb8433177b0244e1767fd21289333858156855c92ef0cd8a8f41b24d08a99", func := "samaritan/samaritanlaw04.ChecksumDetectsChange", spec := "checksumDetectsChange", apart := false, narrowed := true }
def ChecksumDetectsChangeUptoSaid : Prop := checksumDetectsChangeUptoRow.holds Try.pinned (OpenSpec.upto checksumDetectsChangeSpec)

end Rows
end Go.Proofs.Ytmabbdkckdpeoab
