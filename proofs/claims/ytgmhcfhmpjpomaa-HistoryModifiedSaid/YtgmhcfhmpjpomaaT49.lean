/- Closed facts on types and functions. -/
import Derived.Test.YtgmhcfhmpjpomaaProg
import Derived.Test.YtgmhcfhmpjpomaaFe
namespace Go.Proofs.Ytgmhcfhmpjpomaa
set_option linter.unusedSimpArgs false
set_option linter.unusedVariables false
set_option linter.unusedVariables false
open Go.RowKit
theorem ag30 : Fw.AggT Try.prog 30 5 := Fw.AggT.of Try.underlying30 rfl (by kernel_rfl)
theorem ag33 : Fw.AggT Try.prog 33 5 := Fw.AggT.of Try.underlying33 rfl (by kernel_rfl)
theorem bu62_  : Try.prog.built 62 [] = some #[.slice none 0 0] := by kernel_rfl
theorem bu30_  : Try.prog.built 30 [] = some #[.int .i64 0, .int .i64 0, .int .u64 0, .int .u64 0, .int .u64 0] := by kernel_rfl
theorem bu30_0_1_2_3 (a0 : Int) (a1 : Int) (a2 : Int) (a3 : Int) : Try.prog.built 30 [(0, .int .i64 a0), (1, .int .i64 a1), (2, .int .u64 a2), (3, .int .u64 a3)] = some #[.int .i64 a0, .int .i64 a1, .int .u64 a2, .int .u64 a3, .int .u64 0] := by kernel_rfl
theorem bu30_0_1_2_3_4 (a0 : Int) (a1 : Int) (a2 : Int) (a3 : Int) (a4 : Int) : Try.prog.built 30 [(0, .int .i64 a0), (1, .int .i64 a1), (2, .int .u64 a2), (3, .int .u64 a3), (4, .int .u64 a4)] = some #[.int .i64 a0, .int .i64 a1, .int .u64 a2, .int .u64 a3, .int .u64 a4] := by kernel_rfl
theorem bu33_  : Try.prog.built 33 [] = some #[.int .i64 0, .int .i64 0, .int .u64 0, .int .u64 0, .int .u64 0] := by kernel_rfl
theorem bu33_0_1_2_3_4 (a0 : Int) (a1 : Int) (a2 : Int) (a3 : Int) (a4 : Int) : Try.prog.built 33 [(0, .int .i64 a0), (1, .int .i64 a1), (2, .int .u64 a2), (3, .int .u64 a3), (4, .int .u64 a4)] = some #[.int .i64 a0, .int .i64 a1, .int .u64 a2, .int .u64 a3, .int .u64 a4] := by kernel_rfl
theorem bu79_0 (a0 : Option Addr) (a0n a0c : Nat) : Try.prog.built 79 [(0, .slice a0 a0n a0c)] = some #[.slice a0 a0n a0c, .int .i64 0] := by kernel_rfl
theorem cf20 : Fw.CallT Try.prog 20 := Fw.CallT.of Try.func20 (by kernel_rfl) (by kernel_rfl)
theorem cf21 : Fw.CallT Try.prog 21 := Fw.CallT.of Try.func21 (by kernel_rfl) (by kernel_rfl)
theorem cf11 : Fw.CallT Try.prog 11 := Fw.CallT.of Try.func11 (by kernel_rfl) (by kernel_rfl)
theorem cf35 : Fw.CallT Try.prog 35 := Fw.CallT.of Try.func35 (by kernel_rfl) (by kernel_rfl)
theorem cf34 : Fw.CallT Try.prog 34 := Fw.CallT.of Try.func34 (by kernel_rfl) (by kernel_rfl)
theorem cf43 : Fw.CallT Try.prog 43 := Fw.CallT.of Try.func43 (by kernel_rfl) (by kernel_rfl)
theorem cf42 : Fw.CallT Try.prog 42 := Fw.CallT.of Try.func42 (by kernel_rfl) (by kernel_rfl)
theorem cf37 : Fw.CallT Try.prog 37 := Fw.CallT.of Try.func37 (by kernel_rfl) (by kernel_rfl)
theorem cf36 : Fw.CallT Try.prog 36 := Fw.CallT.of Try.func36 (by kernel_rfl) (by kernel_rfl)
theorem cf39 : Fw.CallT Try.prog 39 := Fw.CallT.of Try.func39 (by kernel_rfl) (by kernel_rfl)
theorem cf26 : Fw.CallT Try.prog 26 := Fw.CallT.of Try.func26 (by kernel_rfl) (by kernel_rfl)
theorem cf38 : Fw.CallT Try.prog 38 := Fw.CallT.of Try.func38 (by kernel_rfl) (by kernel_rfl)
theorem cf44 : Fw.CallT Try.prog 44 := Fw.CallT.of Try.func44 (by kernel_rfl) (by kernel_rfl)
theorem cf45 : Fw.CallT Try.prog 45 := Fw.CallT.of Try.func45 (by kernel_rfl) (by kernel_rfl)
theorem cf24 : Fw.CallT Try.prog 24 := Fw.CallT.of Try.func24 (by kernel_rfl) (by kernel_rfl)
theorem cf18 : Fw.CallT Try.prog 18 := Fw.CallT.of Try.func18 (by kernel_rfl) (by kernel_rfl)
theorem cf25 : Fw.CallT Try.prog 25 := Fw.CallT.of Try.func25 (by kernel_rfl) (by kernel_rfl)
theorem cf22 : Fw.CallT Try.prog 22 := Fw.CallT.of Try.func22 (by kernel_rfl) (by kernel_rfl)
theorem cf15 : Fw.CallT Try.prog 15 := Fw.CallT.of Try.func15 (by kernel_rfl) (by kernel_rfl)
theorem cf27 : Fw.CallT Try.prog 27 := Fw.CallT.of Try.func27 (by kernel_rfl) (by kernel_rfl)
theorem cf29 : Fw.CallT Try.prog 29 := Fw.CallT.of Try.func29 (by kernel_rfl) (by kernel_rfl)
theorem cf28 : Fw.CallT Try.prog 28 := Fw.CallT.of Try.func28 (by kernel_rfl) (by kernel_rfl)
theorem cf8 : Fw.CallT Try.prog 8 := Fw.CallT.of Try.func8 (by kernel_rfl) (by kernel_rfl)
theorem cf3 : Fw.CallT Try.prog 3 := Fw.CallT.of Try.func3 (by kernel_rfl) (by kernel_rfl)
theorem cf4 : Fw.CallT Try.prog 4 := Fw.CallT.of Try.func4 (by kernel_rfl) (by kernel_rfl)
theorem cf6 : Fw.CallT Try.prog 6 := Fw.CallT.of Try.func6 (by kernel_rfl) (by kernel_rfl)
theorem cf7 : Fw.CallT Try.prog 7 := Fw.CallT.of Try.func7 (by kernel_rfl) (by kernel_rfl)
theorem cf5 : Fw.CallT Try.prog 5 := Fw.CallT.of Try.func5 (by kernel_rfl) (by kernel_rfl)
theorem cf10 : Fw.CallT Try.prog 10 := Fw.CallT.of Try.func10 (by kernel_rfl) (by kernel_rfl)
theorem cf14 : Fw.CallT Try.prog 14 := Fw.CallT.of Try.func14 (by kernel_rfl) (by kernel_rfl)
theorem cf16 : Fw.CallT Try.prog 16 := Fw.CallT.of Try.func16 (by kernel_rfl) (by kernel_rfl)
theorem cf9 : Fw.CallT Try.prog 9 := Fw.CallT.of Try.func9 (by kernel_rfl) (by kernel_rfl)
theorem cf47 : Fw.CallT Try.prog 47 := Fw.CallT.of Try.func47 (by kernel_rfl) (by kernel_rfl)
theorem cf40 : Fw.CallT Try.prog 40 := Fw.CallT.of Try.func40 (by kernel_rfl) (by kernel_rfl)
theorem cf30 : Fw.CallT Try.prog 30 := Fw.CallT.of Try.func30 (by kernel_rfl) (by kernel_rfl)
theorem cf41 : Fw.CallT Try.prog 41 := Fw.CallT.of Try.func41 (by kernel_rfl) (by kernel_rfl)
theorem cf46 : Fw.CallT Try.prog 46 := Fw.CallT.of Try.func46 (by kernel_rfl) (by kernel_rfl)
theorem cf23 : Fw.CallT Try.prog 23 := Fw.CallT.of Try.func23 (by kernel_rfl) (by kernel_rfl)
theorem cf19 : Fw.CallT Try.prog 19 := Fw.CallT.of Try.func19 (by kernel_rfl) (by kernel_rfl)
theorem cf12 : Fw.CallT Try.prog 12 := Fw.CallT.of Try.func12 (by kernel_rfl) (by kernel_rfl)
theorem cf17 : Fw.CallT Try.prog 17 := Fw.CallT.of Try.func17 (by kernel_rfl) (by kernel_rfl)
theorem cf13 : Fw.CallT Try.prog 13 := Fw.CallT.of Try.func13 (by kernel_rfl) (by kernel_rfl)
theorem cf32 : Fw.CallT Try.prog 32 := Fw.CallT.of Try.func32 (by kernel_rfl) (by kernel_rfl)
theorem cf31 : Fw.CallT Try.prog 31 := Fw.CallT.of Try.func31 (by kernel_rfl) (by kernel_rfl)
theorem cf33 : Fw.CallT Try.prog 33 := Fw.CallT.of Try.func33 (by kernel_rfl) (by kernel_rfl)
theorem fl62_0 : Fw.FieldT Try.prog 62 0 0 := Fw.FieldT.of (m := 0) Try.underlying62 rfl (by kernel_rfl) rfl
theorem fl30_0 : Fw.FieldT Try.prog 30 0 0 := Fw.FieldT.of (m := 0) Try.underlying30 rfl (by kernel_rfl) rfl
theorem fl30_1 : Fw.FieldT Try.prog 30 1 1 := Fw.FieldT.of (m := 0) Try.underlying30 rfl (by kernel_rfl) rfl
theorem fl30_2 : Fw.FieldT Try.prog 30 2 2 := Fw.FieldT.of (m := 0) Try.underlying30 rfl (by kernel_rfl) rfl
theorem fl30_3 : Fw.FieldT Try.prog 30 3 3 := Fw.FieldT.of (m := 0) Try.underlying30 rfl (by kernel_rfl) rfl
theorem fl30_4 : Fw.FieldT Try.prog 30 4 4 := Fw.FieldT.of (m := 0) Try.underlying30 rfl (by kernel_rfl) rfl
theorem fl46_0 : Fw.FieldT Try.prog 46 0 0 := Fw.FieldT.of (m := 0) Try.underlying46 rfl (by kernel_rfl) rfl
theorem fl46_1 : Fw.FieldT Try.prog 46 1 1 := Fw.FieldT.of (m := 0) Try.underlying46 rfl (by kernel_rfl) rfl
theorem fl46_2 : Fw.FieldT Try.prog 46 2 2 := Fw.FieldT.of (m := 0) Try.underlying46 rfl (by kernel_rfl) rfl
theorem fl46_3 : Fw.FieldT Try.prog 46 3 3 := Fw.FieldT.of (m := 0) Try.underlying46 rfl (by kernel_rfl) rfl
theorem fl33_0 : Fw.FieldT Try.prog 33 0 0 := Fw.FieldT.of (m := 0) Try.underlying33 rfl (by kernel_rfl) rfl
theorem fl33_1 : Fw.FieldT Try.prog 33 1 1 := Fw.FieldT.of (m := 0) Try.underlying33 rfl (by kernel_rfl) rfl
theorem fl33_2 : Fw.FieldT Try.prog 33 2 2 := Fw.FieldT.of (m := 0) Try.underlying33 rfl (by kernel_rfl) rfl
theorem fl33_3 : Fw.FieldT Try.prog 33 3 3 := Fw.FieldT.of (m := 0) Try.underlying33 rfl (by kernel_rfl) rfl
theorem fl33_4 : Fw.FieldT Try.prog 33 4 4 := Fw.FieldT.of (m := 0) Try.underlying33 rfl (by kernel_rfl) rfl
theorem fl79_0 : Fw.FieldT Try.prog 79 0 0 := Fw.FieldT.of (m := 0) Try.underlying79 rfl (by kernel_rfl) rfl
theorem fl79_1 : Fw.FieldT Try.prog 79 1 1 := Fw.FieldT.of (m := 0) Try.underlying79 rfl (by kernel_rfl) rfl
theorem fl73_0 : Fw.FieldT Try.prog 73 0 0 := Fw.FieldT.of (m := 0) Try.underlying73 rfl (by kernel_rfl) rfl
theorem sc38 : Fw.ScalT Try.prog 38 := Fw.ScalT.of Try.underlying38 rfl
theorem sc59 : Fw.ScalT Try.prog 59 := Fw.ScalT.of Try.underlying59 rfl
theorem sc51 : Fw.ScalT Try.prog 51 := Fw.ScalT.of Try.underlying51 rfl
theorem sc2 : Fw.ScalT Try.prog 2 := Fw.ScalT.of Try.underlying2 rfl
theorem sc3 : Fw.ScalT Try.prog 3 := Fw.ScalT.of Try.underlying3 rfl
theorem sc28 : Fw.ScalT Try.prog 28 := Fw.ScalT.of Try.underlying28 rfl
theorem sc5 : Fw.ScalT Try.prog 5 := Fw.ScalT.of Try.underlying5 rfl
theorem sl38 : SlT Try.prog 38 30 5 40 := SlT.of (by kernel_rfl) (by kernel_rfl) (by omega)
theorem sl85 : SlT Try.prog 85 2 1 8 := SlT.of (by kernel_rfl) (by kernel_rfl) (by omega)
theorem sl22 : SlT Try.prog 22 33 5 40 := SlT.of (by kernel_rfl) (by kernel_rfl) (by omega)
theorem sl59 : SlT Try.prog 59 5 1 1 := SlT.of (by kernel_rfl) (by kernel_rfl) (by omega)
theorem sz38 : Fw.SizeT Try.prog 38 1 := Fw.SizeT.of (by kernel_rfl)
theorem sz59 : Fw.SizeT Try.prog 59 1 := Fw.SizeT.of (by kernel_rfl)
theorem sz51 : Fw.SizeT Try.prog 51 1 := Fw.SizeT.of (by kernel_rfl)
theorem sz62 : Fw.SizeT Try.prog 62 1 := Fw.SizeT.of (by kernel_rfl)
theorem sz30 : Fw.SizeT Try.prog 30 5 := Fw.SizeT.of (by kernel_rfl)
theorem sz2 : Fw.SizeT Try.prog 2 1 := Fw.SizeT.of (by kernel_rfl)
theorem sz3 : Fw.SizeT Try.prog 3 1 := Fw.SizeT.of (by kernel_rfl)
theorem sz46 : Fw.SizeT Try.prog 46 4 := Fw.SizeT.of (by kernel_rfl)
theorem sz33 : Fw.SizeT Try.prog 33 5 := Fw.SizeT.of (by kernel_rfl)
theorem sz28 : Fw.SizeT Try.prog 28 1 := Fw.SizeT.of (by kernel_rfl)
theorem sz5 : Fw.SizeT Try.prog 5 1 := Fw.SizeT.of (by kernel_rfl)
theorem sz79 : Fw.SizeT Try.prog 79 2 := Fw.SizeT.of (by kernel_rfl)
theorem sz73 : Fw.SizeT Try.prog 73 1 := Fw.SizeT.of (by kernel_rfl)
theorem ze62 : Fw.ZeroT Try.prog 62 (.agg #[.slice none 0 0]) := Fw.ZeroT.of (by kernel_rfl)
theorem ze30 : Fw.ZeroT Try.prog 30 (.agg #[.int .i64 0, .int .i64 0, .int .u64 0, .int .u64 0, .int .u64 0]) := Fw.ZeroT.of (by kernel_rfl)
theorem ze46 : Fw.ZeroT Try.prog 46 (.agg #[.int .i64 0, .int .i64 0, .int .u8 0, .int .u8 0]) := Fw.ZeroT.of (by kernel_rfl)
theorem ze33 : Fw.ZeroT Try.prog 33 (.agg #[.int .i64 0, .int .i64 0, .int .u64 0, .int .u64 0, .int .u64 0]) := Fw.ZeroT.of (by kernel_rfl)
theorem ze79 : Fw.ZeroT Try.prog 79 (.agg #[.slice none 0 0, .int .i64 0]) := Fw.ZeroT.of (by kernel_rfl)
theorem ze73 : Fw.ZeroT Try.prog 73 (.agg #[.slice none 0 0]) := Fw.ZeroT.of (by kernel_rfl)
theorem zi30 : (Try.prog.info? 30).bind (·.zero) = some (.agg #[.int .i64 0, .int .i64 0, .int .u64 0, .int .u64 0, .int .u64 0]) := by kernel_rfl
theorem zi2 : (Try.prog.info? 2).bind (·.zero) = some (.int .i64 0) := by kernel_rfl
theorem zi33 : (Try.prog.info? 33).bind (·.zero) = some (.agg #[.int .i64 0, .int .i64 0, .int .u64 0, .int .u64 0, .int .u64 0]) := by kernel_rfl
theorem zi5 : (Try.prog.info? 5).bind (·.zero) = some (.int .u8 0) := by kernel_rfl
end Go.Proofs.Ytgmhcfhmpjpomaa
