/- Closed facts on types and functions. -/
import Derived.Test.YtmabbdkckdpeoaaProg
import Derived.Test.YtmabbdkckdpeoaaFg
import Derived.Test.YtmabbdkckdpeoaaFh
namespace Go.Proofs.Ytmabbdkckdpeoaa
set_option linter.unusedSimpArgs false
set_option linter.unusedVariables false
set_option linter.unusedVariables false
open Go.RowKit
theorem ag39 : Fw.AggT Try.prog 39 4 := Fw.AggT.of Try.underlying39 rfl (by kernel_rfl)
theorem ag37 : Fw.AggT Try.prog 37 3 := Fw.AggT.of Try.underlying37 rfl (by kernel_rfl)
theorem bu37_  : Try.prog.built 37 [] = some #[.slice none 0 0, .int .i64 0, .bool false] := by kernel_rfl
theorem bu37_0_1_2 (a0 : Option Addr) (a0n a0c : Nat) (a1 : Int) (a2 : Bool) : Try.prog.built 37 [(0, .slice a0 a0n a0c), (1, .int .i64 a1), (2, .bool a2)] = some #[.slice a0 a0n a0c, .int .i64 a1, .bool a2] := by kernel_rfl
theorem bu53_  : Try.prog.built 53 [] = some #[.slice none 0 0, .int .i64 0, .bool false] := by kernel_rfl
theorem cf12 : Fw.CallT Try.prog 12 := Fw.CallT.of Try.func12 (by kernel_rfl) (by kernel_rfl)
theorem cf13 : Fw.CallT Try.prog 13 := Fw.CallT.of Try.func13 (by kernel_rfl) (by kernel_rfl)
theorem cf18 : Fw.CallT Try.prog 18 := Fw.CallT.of Try.func18 (by kernel_rfl) (by kernel_rfl)
theorem cf19 : Fw.CallT Try.prog 19 := Fw.CallT.of Try.func19 (by kernel_rfl) (by kernel_rfl)
theorem cf20 : Fw.CallT Try.prog 20 := Fw.CallT.of Try.func20 (by kernel_rfl) (by kernel_rfl)
theorem cf21 : Fw.CallT Try.prog 21 := Fw.CallT.of Try.func21 (by kernel_rfl) (by kernel_rfl)
theorem cf11 : Fw.CallT Try.prog 11 := Fw.CallT.of Try.func11 (by kernel_rfl) (by kernel_rfl)
theorem cf6 : Fw.CallT Try.prog 6 := Fw.CallT.of Try.func6 (by kernel_rfl) (by kernel_rfl)
theorem cf5 : Fw.CallT Try.prog 5 := Fw.CallT.of Try.func5 (by kernel_rfl) (by kernel_rfl)
theorem cf4 : Fw.CallT Try.prog 4 := Fw.CallT.of Try.func4 (by kernel_rfl) (by kernel_rfl)
theorem cf8 : Fw.CallT Try.prog 8 := Fw.CallT.of Try.func8 (by kernel_rfl) (by kernel_rfl)
theorem cf3 : Fw.CallT Try.prog 3 := Fw.CallT.of Try.func3 (by kernel_rfl) (by kernel_rfl)
theorem cf7 : Fw.CallT Try.prog 7 := Fw.CallT.of Try.func7 (by kernel_rfl) (by kernel_rfl)
theorem cf15 : Fw.CallT Try.prog 15 := Fw.CallT.of Try.func15 (by kernel_rfl) (by kernel_rfl)
theorem cf17 : Fw.CallT Try.prog 17 := Fw.CallT.of Try.func17 (by kernel_rfl) (by kernel_rfl)
theorem cf16 : Fw.CallT Try.prog 16 := Fw.CallT.of Try.func16 (by kernel_rfl) (by kernel_rfl)
theorem cf14 : Fw.CallT Try.prog 14 := Fw.CallT.of Try.func14 (by kernel_rfl) (by kernel_rfl)
theorem cf9 : Fw.CallT Try.prog 9 := Fw.CallT.of Try.func9 (by kernel_rfl) (by kernel_rfl)
theorem cf24 : Fw.CallT Try.prog 24 := Fw.CallT.of Try.func24 (by kernel_rfl) (by kernel_rfl)
theorem cf27 : Fw.CallT Try.prog 27 := Fw.CallT.of Try.func27 (by kernel_rfl) (by kernel_rfl)
theorem cf25 : Fw.CallT Try.prog 25 := Fw.CallT.of Try.func25 (by kernel_rfl) (by kernel_rfl)
theorem cf26 : Fw.CallT Try.prog 26 := Fw.CallT.of Try.func26 (by kernel_rfl) (by kernel_rfl)
theorem cf23 : Fw.CallT Try.prog 23 := Fw.CallT.of Try.func23 (by kernel_rfl) (by kernel_rfl)
theorem cf22 : Fw.CallT Try.prog 22 := Fw.CallT.of Try.func22 (by kernel_rfl) (by kernel_rfl)
theorem cf10 : Fw.CallT Try.prog 10 := Fw.CallT.of Try.func10 (by kernel_rfl) (by kernel_rfl)
theorem fl39_0 : Fw.FieldT Try.prog 39 0 0 := Fw.FieldT.of (m := 0) Try.underlying39 rfl (by kernel_rfl) rfl
theorem fl39_1 : Fw.FieldT Try.prog 39 1 1 := Fw.FieldT.of (m := 0) Try.underlying39 rfl (by kernel_rfl) rfl
theorem fl39_2 : Fw.FieldT Try.prog 39 2 2 := Fw.FieldT.of (m := 0) Try.underlying39 rfl (by kernel_rfl) rfl
theorem fl39_3 : Fw.FieldT Try.prog 39 3 3 := Fw.FieldT.of (m := 0) Try.underlying39 rfl (by kernel_rfl) rfl
theorem fl37_0 : Fw.FieldT Try.prog 37 0 0 := Fw.FieldT.of (m := 0) Try.underlying37 rfl (by kernel_rfl) rfl
theorem fl37_1 : Fw.FieldT Try.prog 37 1 1 := Fw.FieldT.of (m := 0) Try.underlying37 rfl (by kernel_rfl) rfl
theorem fl37_2 : Fw.FieldT Try.prog 37 2 2 := Fw.FieldT.of (m := 0) Try.underlying37 rfl (by kernel_rfl) rfl
theorem fl53_0 : Fw.FieldT Try.prog 53 0 0 := Fw.FieldT.of (m := 0) Try.underlying53 rfl (by kernel_rfl) rfl
theorem fl53_1 : Fw.FieldT Try.prog 53 1 1 := Fw.FieldT.of (m := 0) Try.underlying53 rfl (by kernel_rfl) rfl
theorem fl53_2 : Fw.FieldT Try.prog 53 2 2 := Fw.FieldT.of (m := 0) Try.underlying53 rfl (by kernel_rfl) rfl
theorem sc22 : Fw.ScalT Try.prog 22 := Fw.ScalT.of Try.underlying22 rfl
theorem sc4 : Fw.ScalT Try.prog 4 := Fw.ScalT.of Try.underlying4 rfl
theorem sc3 : Fw.ScalT Try.prog 3 := Fw.ScalT.of Try.underlying3 rfl
theorem sc5 : Fw.ScalT Try.prog 5 := Fw.ScalT.of Try.underlying5 rfl
theorem sl47 : SlT Try.prog 47 3 1 8 := SlT.of (by kernel_rfl) (by kernel_rfl) (by omega)
theorem sl34 : SlT Try.prog 34 39 4 48 := SlT.of (by kernel_rfl) (by kernel_rfl) (by omega)
theorem sl22 : SlT Try.prog 22 5 1 1 := SlT.of (by kernel_rfl) (by kernel_rfl) (by omega)
theorem sz22 : Fw.SizeT Try.prog 22 1 := Fw.SizeT.of (by kernel_rfl)
theorem sz4 : Fw.SizeT Try.prog 4 1 := Fw.SizeT.of (by kernel_rfl)
theorem sz3 : Fw.SizeT Try.prog 3 1 := Fw.SizeT.of (by kernel_rfl)
theorem sz39 : Fw.SizeT Try.prog 39 4 := Fw.SizeT.of (by kernel_rfl)
theorem sz37 : Fw.SizeT Try.prog 37 3 := Fw.SizeT.of (by kernel_rfl)
theorem sz53 : Fw.SizeT Try.prog 53 3 := Fw.SizeT.of (by kernel_rfl)
theorem sz5 : Fw.SizeT Try.prog 5 1 := Fw.SizeT.of (by kernel_rfl)
theorem ze39 : Fw.ZeroT Try.prog 39 (.agg #[.int .u8 0, .slice none 0 0, .int .i64 0, .int .u8 0]) := Fw.ZeroT.of (by kernel_rfl)
theorem ze37 : Fw.ZeroT Try.prog 37 (.agg #[.slice none 0 0, .int .i64 0, .bool false]) := Fw.ZeroT.of (by kernel_rfl)
theorem ze53 : Fw.ZeroT Try.prog 53 (.agg #[.slice none 0 0, .int .i64 0, .bool false]) := Fw.ZeroT.of (by kernel_rfl)
theorem zi3 : (Try.prog.info? 3).bind (·.zero) = some (.int .i64 0) := by kernel_rfl
theorem zi39 : (Try.prog.info? 39).bind (·.zero) = some (.agg #[.int .u8 0, .slice none 0 0, .int .i64 0, .int .u8 0]) := by kernel_rfl
theorem zi5 : (Try.prog.info? 5).bind (·.zero) = some (.int .u8 0) := by kernel_rfl
end Go.Proofs.Ytmabbdkckdpeoaa
