/-
  No cell of these rows narrows 'for every input' (looked for: loops, veiled, ifaces, maps, wideKeys, modest, calm, conditions, laid).
  DERIVED. THE GIVEN ROWS OF THIS SEAT. 8 by the template 'for every input the law returns true; each argument reads behind the call as it read before'; 0 by the template 'total and deterministic' (their statements: YtenljoccfjlncaaTotals.lean).
  GIVEN WITH THE SEED: the statements are not yours to turn. If you find one false, say at which input.
  Laid BY PROGRAM, IN A SANDBOX (cutbox-rows.mjs): the forced cells as the released guide's own fill.sh prints them over the translation 3f89ee42f3ef3b2f… (all of the seat's roots in one cut). By AI agents, Wed Nov 11 2026. No macro, syntax, notation, axiom, sorry.
-/
import Derived.Test.YtenljoccfjlncaaChecked
import GoSem.Claim
import GoSem.ClaimJoined
import GoSem.ClaimMapViews
import Derived.JoinedTies
import Derived.KernelRfl
namespace Go.Proofs.Ytenljoccfjlncaa
/- THE CELL 'sum', in the pinned program and in every row, IS THE sha256 OF THE DUMP (.gsa) THAT YtenljoccfjlncaaProg.lean LOADS. Nothing in Lean hashes anything: it is a label: what it is worth is what the hold of that sum in a sandbox is worth. -/
noncomputable def Try.pinned : Pinned := { name := "ytenljoccfjlncaa", sum := "3f89ee42f3ef3b2fea16cbade899821f4d865c688a45a8aa2ddfe15af3298b8a", checked := Try.checked }
namespace Rows
def none {H : Type} : Left H := { results := [], args := [] }

/-- 'samaritanlaw09.ShortestPathFrom': WHATEVER THE INPUT: true; the input reads as it did. -/
def shortestPathFromSpec : ChangeSpec := { name := "shortestPathFrom", fn := fun _ => fun
  | [d1, d2, d3] => { results := [.lit (.bool true)], args := [d1, d2, d3] }
  | _ => none }
def shortestPathFromRow : OpenClaim := { program := "ytenljoccfjlncaa", sum := "3f89ee42f3ef3b2fea16cbade899821f4d865c688a45a8aa2ddfe15af3298b8a", func := "samaritan/samaritanlaw09.ShortestPathFrom", spec := "shortestPathFrom", unfollowed := true, recurses := true, apart := false }
def ShortestPathFromSaid : Prop := shortestPathFromRow.holds Try.pinned (OpenSpec.ofChange shortestPathFromSpec)

/-- ITS FALSE NEIGHBOUR: 'it returns false'. Refute it at one input. -/
def shortestPathFromWrong : ChangeSpec := { name := "shortestPathFrom", fn := fun _ => fun
  | [d1, d2, d3] => { results := [.lit (.bool false)], args := [d1, d2, d3] }
  | _ => none }
def ShortestPathFromWrongFalsely : Prop := shortestPathFromRow.holds Try.pinned (OpenSpec.ofChange shortestPathFromWrong)

/-- 'samaritanlaw09.ShortestPathPath': WHATEVER THE INPUT: true; the input reads as it did. -/
def shortestPathPathSpec : ChangeSpec := { name := "shortestPathPath", fn := fun _ => fun
  | [d1, d2, d3] => { results := [.lit (.bool true)], args := [d1, d2, d3] }
  | _ => none }
def shortestPathPathRow : OpenClaim := { program := "ytenljoccfjlncaa", sum := "3f89ee42f3ef3b2fea16cbade899821f4d865c688a45a8aa2ddfe15af3298b8a", func := "samaritan/samaritanlaw09.ShortestPathPath", spec := "shortestPathPath", unfollowed := true, recurses := true, apart := false }
def ShortestPathPathSaid : Prop := shortestPathPathRow.holds Try.pinned (OpenSpec.ofChange shortestPathPathSpec)

/-- ITS FALSE NEIGHBOUR: 'it returns false'. Refute it at one input. -/
def shortestPathPathWrong : ChangeSpec := { name := "shortestPathPath", fn := fun _ => fun
  | [d1, d2, d3] => { results := [.lit (.bool false)], args := [d1, d2, d3] }
  | _ => none }
def ShortestPathPathWrongFalsely : Prop := shortestPathPathRow.holds Try.pinned (OpenSpec.ofChange shortestPathPathWrong)

/-- 'samaritanlaw09.ShortestPathPathTime': WHATEVER THE INPUT: true; the input reads as it did. -/
def shortestPathPathTimeSpec : ChangeSpec := { name := "shortestPathPathTime", fn := fun _ => fun
  | [d1, d2, d3] => { results := [.lit (.bool true)], args := [d1, d2, d3] }
  | _ => none }
def shortestPathPathTimeRow : OpenClaim := { program := "ytenljoccfjlncaa", sum := "3f89ee42f3ef3b2fea16cbade899821f4d865c688a45a8aa2ddfe15af3298b8a", func := "samaritan/samaritanlaw09.ShortestPathPathTime", spec := "shortestPathPathTime", unfollowed := true, recurses := true, apart := false }
def ShortestPathPathTimeSaid : Prop := shortestPathPathTimeRow.holds Try.pinned (OpenSpec.ofChange shortestPathPathTimeSpec)

/-- ITS FALSE NEIGHBOUR: 'it returns false'. Refute it at one input. -/
def shortestPathPathTimeWrong : ChangeSpec := { name := "shortestPathPathTime", fn := fun _ => fun
  | [d1, d2, d3] => { results := [.lit (.bool false)], args := [d1, d2, d3] }
  | _ => none }
def ShortestPathPathTimeWrongFalsely : Prop := shortestPathPathTimeRow.holds Try.pinned (OpenSpec.ofChange shortestPathPathTimeWrong)

/-- 'samaritanlaw09.ShortestPathVerify': WHATEVER THE INPUT: true; the input reads as it did. -/
def shortestPathVerifySpec : ChangeSpec := { name := "shortestPathVerify", fn := fun _ => fun
  | [d1, d2, d3] => { results := [.lit (.bool true)], args := [d1, d2, d3] }
  | _ => none }
def shortestPathVerifyRow : OpenClaim := { program := "ytenljoccfjlncaa", sum := "3f89ee42f3ef3b2fea16cbade899821f4d865c688a45a8aa2ddfe15af3298b8a", func := "samaritan/samaritanlaw09.ShortestPathVerify", spec := "shortestPathVerify", unfollowed := true, recurses := true, apart := false }
def ShortestPathVerifySaid : Prop := shortestPathVerifyRow.holds Try.pinned (OpenSpec.ofChange shortestPathVerifySpec)

/-- ITS FALSE NEIGHBOUR: 'it returns false'. Refute it at one input. -/
def shortestPathVerifyWrong : ChangeSpec := { name := "shortestPathVerify", fn := fun _ => fun
  | [d1, d2, d3] => { results := [.lit (.bool false)], args := [d1, d2, d3] }
  | _ => none }
def ShortestPathVerifyWrongFalsely : Prop := shortestPathVerifyRow.holds Try.pinned (OpenSpec.ofChange shortestPathVerifyWrong)

/-- 'samaritanlaw09.ShortestPathMonotonic': WHATEVER THE INPUT: true; the input reads as it did. -/
def shortestPathMonotonicSpec : ChangeSpec := { name := "shortestPathMonotonic", fn := fun _ => fun
  | [d1, d2, d3] => { results := [.lit (.bool true)], args := [d1, d2, d3] }
  | _ => none }
def shortestPathMonotonicRow : OpenClaim := { program := "ytenljoccfjlncaa", sum := "3f89ee42f3ef3b2fea16cbade899821f4d865c688a45a8aa2ddfe15af3298b8a", func := "samaritan/samaritanlaw09.ShortestPathMonotonic", spec := "shortestPathMonotonic", unfollowed := true, recurses := true, apart := false }
def ShortestPathMonotonicSaid : Prop := shortestPathMonotonicRow.holds Try.pinned (OpenSpec.ofChange shortestPathMonotonicSpec)

/-- ITS FALSE NEIGHBOUR: 'it returns false'. Refute it at one input. -/
def shortestPathMonotonicWrong : ChangeSpec := { name := "shortestPathMonotonic", fn := fun _ => fun
  | [d1, d2, d3] => { results := [.lit (.bool false)], args := [d1, d2, d3] }
  | _ => none }
def ShortestPathMonotonicWrongFalsely : Prop := shortestPathMonotonicRow.holds Try.pinned (OpenSpec.ofChange shortestPathMonotonicWrong)

/-- 'samaritanlaw09.ShortestPathMinimal': WHATEVER THE INPUT: true; the input reads as it did. -/
def shortestPathMinimalSpec : ChangeSpec := { name := "shortestPathMinimal", fn := fun _ => fun
  | [d1, d2, d3] => { results := [.lit (.bool true)], args := [d1, d2, d3] }
  | _ => none }
def shortestPathMinimalRow : OpenClaim := { program := "ytenljoccfjlncaa", sum := "3f89ee42f3ef3b2fea16cbade899821f4d865c688a45a8aa2ddfe15af3298b8a", func := "samaritan/samaritanlaw09.ShortestPathMinimal", spec := "shortestPathMinimal", unfollowed := true, recurses := true, apart := false }
def ShortestPathMinimalSaid : Prop := shortestPathMinimalRow.holds Try.pinned (OpenSpec.ofChange shortestPathMinimalSpec)

/-- ITS FALSE NEIGHBOUR: 'it returns false'. Refute it at one input. -/
def shortestPathMinimalWrong : ChangeSpec := { name := "shortestPathMinimal", fn := fun _ => fun
  | [d1, d2, d3] => { results := [.lit (.bool false)], args := [d1, d2, d3] }
  | _ => none }
def ShortestPathMinimalWrongFalsely : Prop := shortestPathMinimalRow.holds Try.pinned (OpenSpec.ofChange shortestPathMinimalWrong)

/-- 'samaritanlaw09.ShortestPathTo': WHATEVER THE INPUT: true; the input reads as it did. -/
def shortestPathToSpec : ChangeSpec := { name := "shortestPathTo", fn := fun _ => fun
  | [d1, d2, d3] => { results := [.lit (.bool true)], args := [d1, d2, d3] }
  | _ => none }
def shortestPathToRow : OpenClaim := { program := "ytenljoccfjlncaa", sum := "3f89ee42f3ef3b2fea16cbade899821f4d865c688a45a8aa2ddfe15af3298b8a", func := "samaritan/samaritanlaw09.ShortestPathTo", spec := "shortestPathTo", unfollowed := true, recurses := true, apart := false }
def ShortestPathToSaid : Prop := shortestPathToRow.holds Try.pinned (OpenSpec.ofChange shortestPathToSpec)

/-- ITS FALSE NEIGHBOUR: 'it returns false'. Refute it at one input. -/
def shortestPathToWrong : ChangeSpec := { name := "shortestPathTo", fn := fun _ => fun
  | [d1, d2, d3] => { results := [.lit (.bool false)], args := [d1, d2, d3] }
  | _ => none }
def ShortestPathToWrongFalsely : Prop := shortestPathToRow.holds Try.pinned (OpenSpec.ofChange shortestPathToWrong)

/-- 'samaritanlaw09.ShortestPathTriangle': WHATEVER THE INPUT: true; the input reads as it did. -/
def shortestPathTriangleSpec : ChangeSpec := { name := "shortestPathTriangle", fn := fun _ => fun
  | [d1, d2, d3] => { results := [.lit (.bool true)], args := [d1, d2, d3] }
  | _ => none }
def shortestPathTriangleRow : OpenClaim := { program := "ytenljoccfjlncaa", sum := "3f89ee42f3ef3b2fea16cbade899821f4d865c688a45a8aa2ddfe15af3298b8a", func := "samaritan/samaritanlaw09.ShortestPathTriangle", spec := "shortestPathTriangle", unfollowed := true, recurses := true, apart := false }
def ShortestPathTriangleSaid : Prop := shortestPathTriangleRow.holds Try.pinned (OpenSpec.ofChange shortestPathTriangleSpec)

/-- ITS FALSE NEIGHBOUR: 'it returns false'. Refute it at one input. -/
def shortestPathTriangleWrong : ChangeSpec := { name := "shortestPathTriangle", fn := fun _ => fun
  | [d1, d2, d3] => { results := [.lit (.bool false)], args := [d1, d2, d3] }
  | _ => none }
def ShortestPathTriangleWrongFalsely : Prop := shortestPathTriangleRow.holds Try.pinned (OpenSpec.ofChange shortestPathTriangleWrong)

/- THE SECOND FORM. 'bulk': how many values and letters a reading holds, each counted each time it is reached (what is shared counts as often as it is met; a slice's spare places count too). A statement '..UptoSaid' is the law's where the arguments, and the package variables that the reading takes, are together of bulk at most 1048576: NARROWER than '..Said'. Prove '..Said' where nothing that the law and all that it calls make is longer than what came in: it says more and counts as full. Else prove '..UptoSaid'. A law counts once. -/
mutual
def uptoBulk {H : Type} : DataW H → Nat
  | .lit (.string bytes) => bytes.length + 1
  | .lit _ => 1
  | .nil => 1
  | .ptr d => uptoBulk d + 1
  | .slice elems spare => uptoBulkAll elems + uptoBulkAll spare + 1
  | .agg parts => uptoBulkAll parts + 1
  | .iface _ d => uptoBulk d + 1
  | .map entries => uptoBulkEntries entries + 1
  | .held _ => 1
def uptoBulkAll {H : Type} : List (DataW H) → Nat
  | [] => 0
  | d :: r => uptoBulk d + uptoBulkAll r
def uptoBulkEntries {H : Type} : List (Lit × DataW H) → Nat
  | [] => 0
  | x :: r => uptoBulkEntry x + uptoBulkEntries r
def uptoBulkEntry {H : Type} : Lit × DataW H → Nat
  | (.string bytes, d) => bytes.length + uptoBulk d + 1
  | (_, d) => uptoBulk d + 1
 end
def uptoSmall : (H : Type) → List (DataW H) → Bool := fun _ ds => decide (uptoBulkAll ds ≤ 1048576)
def OpenSpec.upto (s : _root_.Go.ChangeSpec) : _root_.Go.OpenSpec := { _root_.Go.OpenSpec.ofChange s with cond := some uptoSmall }

/-- 'samaritanlaw09.ShortestPathFrom', WHERE WHAT IT READS IS OF BULK AT MOST 1048576: true; the input reads as it did. -/
def shortestPathFromUptoRow : OpenClaim := { program := "ytenljoccfjlncaa", sum := "3f89ee42f3ef3b2fea16cbade899821f4d865c688a45a8aa2ddfe15af3298b8a", func := "samaritan/samaritanlaw09.ShortestPathFrom", spec := "shortestPathFrom", unfollowed := true, recurses := true, apart := false, narrowed := true }
def ShortestPathFromUptoSaid : Prop := shortestPathFromUptoRow.holds Try.pinned (OpenSpec.upto shortestPathFromSpec)

/-- 'samaritanlaw09.ShortestPathPath', WHERE WHAT IT READS IS OF BULK AT MOST 1048576: true; the input reads as it did. -/
def shortestPathPathUptoRow : OpenClaim := { program := "ytenljoccfjlncaa", sum := "3f89ee42f3ef3b2fea16cbade899821f4d865c688a45a8aa2ddfe15af3298b8a", func := "samaritan/samaritanlaw09.ShortestPathPath", spec := "shortestPathPath", unfollowed := true, recurses := true, apart := false, narrowed := true }
def ShortestPathPathUptoSaid : Prop := shortestPathPathUptoRow.holds Try.pinned (OpenSpec.upto shortestPathPathSpec)

/-- 'samaritanlaw09.ShortestPathPathTime', WHERE WHAT IT READS IS OF BULK AT MOST 1048576: true; the input reads as it did. -/
def shortestPathPathTimeUptoRow : OpenClaim := { program := "ytenljoccfjlncaa", sum := "3f89ee42f3ef3b2fea16cbade899821f4d865c688a45a8aa2ddfe15af3298b8a", func := "samaritan/samaritanlaw09.ShortestPathPathTime", spec := "shortestPathPathTime", unfollowed := true, recurses := true, apart := false, narrowed := true }
def ShortestPathPathTimeUptoSaid : Prop := shortestPathPathTimeUptoRow.holds Try.pinned (OpenSpec.upto shortestPathPathTimeSpec)

/-- 'samaritanlaw09.ShortestPathVerify', WHERE WHAT IT READS IS OF BULK AT MOST 1048576: true; the input reads as it did. -/
def shortestPathVerifyUptoRow : OpenClaim := { program := "ytenljoccfjlncaa", sum := "3f89ee42f3ef3b2fea16cbade899821f4d865c688a45a8aa2ddfe15af3298b8a", func := "samaritan/samaritanlaw09.ShortestPathVerify", spec := "shortestPathVerify", unfollowed := true, recurses := true, apart := false, narrowed := true }
def ShortestPathVerifyUptoSaid : Prop := shortestPathVerifyUptoRow.holds Try.pinned (OpenSpec.upto shortestPathVerifySpec)

/-- 'samaritanlaw09.ShortestPathMonotonic', WHERE WHAT IT READS IS OF BULK AT MOST 1048576: true; the input reads as it did. -/
def shortestPathMonotonicUptoRow : OpenClaim := { program := "ytenljoccfjlncaa", sum := "3f89ee42f3ef3b2fea16cbade899821f4d865c688a45a8aa2ddfe15af3298b8a", func := "samaritan/samaritanlaw09.ShortestPathMonotonic", spec := "shortestPathMonotonic", unfollowed := true, recurses := true, apart := false, narrowed := true }
def ShortestPathMonotonicUptoSaid : Prop := shortestPathMonotonicUptoRow.holds Try.pinned (OpenSpec.upto shortestPathMonotonicSpec)

/-- 'samaritanlaw09.ShortestPathMinimal', WHERE WHAT IT READS IS OF BULK AT MOST 1048576: true; the input reads as it did. -/
def shortestPathMinimalUptoRow : OpenClaim := { program := "ytenljoccfjlncaa", sum := "3f89ee42f3ef3b2fea16cbade899821f4d865c688a45a8aa2ddfe15af3298b8a", func := "samaritan/samaritanlaw09.ShortestPathMinimal", spec := "shortestPathMinimal", unfollowed := true, recurses := true, apart := false, narrowed := true }
def ShortestPathMinimalUptoSaid : Prop := shortestPathMinimalUptoRow.holds Try.pinned (OpenSpec.upto shortestPathMinimalSpec)

/-- 'samaritanlaw09.ShortestPathTo', WHERE WHAT IT READS IS OF BULK AT MOST 1048576: true; the input reads as it did. -/
def shortestPathToUptoRow : OpenClaim := { program := "ytenljoccfjlncaa", sum := "3f89ee42f3ef3b2fea16cbade899821f4d865c688a45a8aa2ddfe15af3298b8a", func := "samaritan/samaritanlaw09.ShortestPathTo", spec := "shortestPathTo", unfollowed := true, recurses := true, apart := false, narrowed := true }
def ShortestPathToUptoSaid : Prop := shortestPathToUptoRow.holds Try.pinned (OpenSpec.upto shortestPathToSpec)

/-- 'samaritanlaw09.ShortestPathTriangle', WHERE WHAT IT READS IS OF BULK AT MOST 1048576: true; the input reads as it did. -/
def shortestPathTriangleUptoRow : OpenClaim := { program := "ytenljoccfjlncaa", sum := "3f89ee42f3ef3b2fea16cbade899821f4d865c688a45a8aa2ddfe15af3298b8a", func := "samaritan/samaritanlaw09.ShortestPathTriangle", spec := "shortestPathTriangle", unfollowed := true, recurses := true, apart := false, narrowed := true }
def ShortestPathTriangleUptoSaid : Prop := shortestPathTriangleUptoRow.holds Try.pinned (OpenSpec.upto shortestPathTriangleSpec)

end Rows
end Go.Proofs.Ytenljoccfjlncaa
