/- Closed facts on types and functions. -/
import Derived.Test.YtpoacekefhblhaaProg
import Derived.Test.YtpoacekefhblhaaGg
import Derived.Test.YtpoacekefhblhaaGh
namespace Go.Proofs.Ytpoacekefhblhaa
set_option linter.unusedSimpArgs false
set_option linter.unusedVariables false
set_option linter.unusedVariables false
open Go.RowKit
theorem ag68 : Fw.AggT Try.prog 68 4 := Fw.AggT.of Try.underlying68 rfl (by kernel_rfl)
theorem ag24 : Fw.AggT Try.prog 24 3 := Fw.AggT.of Try.underlying24 rfl (by kernel_rfl)
theorem ag30 : Fw.AggT Try.prog 30 2 := Fw.AggT.of Try.underlying30 rfl (by kernel_rfl)
theorem bu24_0_1 (a0 : ByteArray) (a1 : Int) : Try.prog.built 24 [(0, .string a0), (1, .int .i64 a1)] = some #[.string a0, .int .i64 a1, .slice none 0 0] := by kernel_rfl
theorem bu30_  : Try.prog.built 30 [] = some #[.string .empty, .slice none 0 0] := by kernel_rfl
theorem bu30_0_1 (a0 : ByteArray) (a1 : Option Addr) (a1n a1c : Nat) : Try.prog.built 30 [(0, .string a0), (1, .slice a1 a1n a1c)] = some #[.string a0, .slice a1 a1n a1c] := by kernel_rfl
theorem bu62_0 (a0_0 : ByteArray) (a0_1 : Int) (a0_2 : Option Addr) (a0_2n a0_2c : Nat) : Try.prog.built 62 [(0, .agg #[.string a0_0, .int .i64 a0_1, .slice a0_2 a0_2n a0_2c])] = some #[.string a0_0, .int .i64 a0_1, .slice a0_2 a0_2n a0_2c, .slice none 0 0, .slice none 0 0, .int .i64 0] := by kernel_rfl
theorem cf11 : Fw.CallT Try.prog 11 := Fw.CallT.of Try.func11 (by kernel_rfl) (by kernel_rfl)
theorem cf12 : Fw.CallT Try.prog 12 := Fw.CallT.of Try.func12 (by kernel_rfl) (by kernel_rfl)
theorem cf10 : Fw.CallT Try.prog 10 := Fw.CallT.of Try.func10 (by kernel_rfl) (by kernel_rfl)
theorem cf14 : Fw.CallT Try.prog 14 := Fw.CallT.of Try.func14 (by kernel_rfl) (by kernel_rfl)
theorem cf13 : Fw.CallT Try.prog 13 := Fw.CallT.of Try.func13 (by kernel_rfl) (by kernel_rfl)
theorem cf9 : Fw.CallT Try.prog 9 := Fw.CallT.of Try.func9 (by kernel_rfl) (by kernel_rfl)
theorem cf56 : Fw.CallT Try.prog 56 := Fw.CallT.of Try.func56 (by kernel_rfl) (by kernel_rfl)
theorem cf16 : Fw.CallT Try.prog 16 := Fw.CallT.of Try.func16 (by kernel_rfl) (by kernel_rfl)
theorem cf29 : Fw.CallT Try.prog 29 := Fw.CallT.of Try.func29 (by kernel_rfl) (by kernel_rfl)
theorem cf35 : Fw.CallT Try.prog 35 := Fw.CallT.of Try.func35 (by kernel_rfl) (by kernel_rfl)
theorem cf7 : Fw.CallT Try.prog 7 := Fw.CallT.of Try.func7 (by kernel_rfl) (by kernel_rfl)
theorem cf15 : Fw.CallT Try.prog 15 := Fw.CallT.of Try.func15 (by kernel_rfl) (by kernel_rfl)
theorem cf24 : Fw.CallT Try.prog 24 := Fw.CallT.of Try.func24 (by kernel_rfl) (by kernel_rfl)
theorem cf32 : Fw.CallT Try.prog 32 := Fw.CallT.of Try.func32 (by kernel_rfl) (by kernel_rfl)
theorem cf5 : Fw.CallT Try.prog 5 := Fw.CallT.of Try.func5 (by kernel_rfl) (by kernel_rfl)
theorem cf36 : Fw.CallT Try.prog 36 := Fw.CallT.of Try.func36 (by kernel_rfl) (by kernel_rfl)
theorem cf38 : Fw.CallT Try.prog 38 := Fw.CallT.of Try.func38 (by kernel_rfl) (by kernel_rfl)
theorem cf18 : Fw.CallT Try.prog 18 := Fw.CallT.of Try.func18 (by kernel_rfl) (by kernel_rfl)
theorem cf30 : Fw.CallT Try.prog 30 := Fw.CallT.of Try.func30 (by kernel_rfl) (by kernel_rfl)
theorem cf37 : Fw.CallT Try.prog 37 := Fw.CallT.of Try.func37 (by kernel_rfl) (by kernel_rfl)
theorem cf19 : Fw.CallT Try.prog 19 := Fw.CallT.of Try.func19 (by kernel_rfl) (by kernel_rfl)
theorem cf31 : Fw.CallT Try.prog 31 := Fw.CallT.of Try.func31 (by kernel_rfl) (by kernel_rfl)
theorem cf17 : Fw.CallT Try.prog 17 := Fw.CallT.of Try.func17 (by kernel_rfl) (by kernel_rfl)
theorem cf6 : Fw.CallT Try.prog 6 := Fw.CallT.of Try.func6 (by kernel_rfl) (by kernel_rfl)
theorem cf8 : Fw.CallT Try.prog 8 := Fw.CallT.of Try.func8 (by kernel_rfl) (by kernel_rfl)
theorem cf27 : Fw.CallT Try.prog 27 := Fw.CallT.of Try.func27 (by kernel_rfl) (by kernel_rfl)
theorem cf21 : Fw.CallT Try.prog 21 := Fw.CallT.of Try.func21 (by kernel_rfl) (by kernel_rfl)
theorem cf22 : Fw.CallT Try.prog 22 := Fw.CallT.of Try.func22 (by kernel_rfl) (by kernel_rfl)
theorem cf25 : Fw.CallT Try.prog 25 := Fw.CallT.of Try.func25 (by kernel_rfl) (by kernel_rfl)
theorem cf20 : Fw.CallT Try.prog 20 := Fw.CallT.of Try.func20 (by kernel_rfl) (by kernel_rfl)
theorem cf34 : Fw.CallT Try.prog 34 := Fw.CallT.of Try.func34 (by kernel_rfl) (by kernel_rfl)
theorem cf26 : Fw.CallT Try.prog 26 := Fw.CallT.of Try.func26 (by kernel_rfl) (by kernel_rfl)
theorem cf23 : Fw.CallT Try.prog 23 := Fw.CallT.of Try.func23 (by kernel_rfl) (by kernel_rfl)
theorem cf3 : Fw.CallT Try.prog 3 := Fw.CallT.of Try.func3 (by kernel_rfl) (by kernel_rfl)
theorem cf4 : Fw.CallT Try.prog 4 := Fw.CallT.of Try.func4 (by kernel_rfl) (by kernel_rfl)
theorem cf28 : Fw.CallT Try.prog 28 := Fw.CallT.of Try.func28 (by kernel_rfl) (by kernel_rfl)
theorem cf33 : Fw.CallT Try.prog 33 := Fw.CallT.of Try.func33 (by kernel_rfl) (by kernel_rfl)
theorem cf40 : Fw.CallT Try.prog 40 := Fw.CallT.of Try.func40 (by kernel_rfl) (by kernel_rfl)
theorem cf39 : Fw.CallT Try.prog 39 := Fw.CallT.of Try.func39 (by kernel_rfl) (by kernel_rfl)
theorem cf45 : Fw.CallT Try.prog 45 := Fw.CallT.of Try.func45 (by kernel_rfl) (by kernel_rfl)
theorem cf46 : Fw.CallT Try.prog 46 := Fw.CallT.of Try.func46 (by kernel_rfl) (by kernel_rfl)
theorem cf44 : Fw.CallT Try.prog 44 := Fw.CallT.of Try.func44 (by kernel_rfl) (by kernel_rfl)
theorem cf43 : Fw.CallT Try.prog 43 := Fw.CallT.of Try.func43 (by kernel_rfl) (by kernel_rfl)
theorem cf57 : Fw.CallT Try.prog 57 := Fw.CallT.of Try.func57 (by kernel_rfl) (by kernel_rfl)
theorem cf58 : Fw.CallT Try.prog 58 := Fw.CallT.of Try.func58 (by kernel_rfl) (by kernel_rfl)
theorem cf55 : Fw.CallT Try.prog 55 := Fw.CallT.of Try.func55 (by kernel_rfl) (by kernel_rfl)
theorem cf60 : Fw.CallT Try.prog 60 := Fw.CallT.of Try.func60 (by kernel_rfl) (by kernel_rfl)
theorem cf48 : Fw.CallT Try.prog 48 := Fw.CallT.of Try.func48 (by kernel_rfl) (by kernel_rfl)
theorem cf50 : Fw.CallT Try.prog 50 := Fw.CallT.of Try.func50 (by kernel_rfl) (by kernel_rfl)
theorem cf51 : Fw.CallT Try.prog 51 := Fw.CallT.of Try.func51 (by kernel_rfl) (by kernel_rfl)
theorem cf41 : Fw.CallT Try.prog 41 := Fw.CallT.of Try.func41 (by kernel_rfl) (by kernel_rfl)
theorem cf47 : Fw.CallT Try.prog 47 := Fw.CallT.of Try.func47 (by kernel_rfl) (by kernel_rfl)
theorem cf54 : Fw.CallT Try.prog 54 := Fw.CallT.of Try.func54 (by kernel_rfl) (by kernel_rfl)
theorem fl68_0 : Fw.FieldT Try.prog 68 0 0 := Fw.FieldT.of (m := 0) Try.underlying68 rfl (by kernel_rfl) rfl
theorem fl68_1 : Fw.FieldT Try.prog 68 1 1 := Fw.FieldT.of (m := 0) Try.underlying68 rfl (by kernel_rfl) rfl
theorem fl68_2 : Fw.FieldT Try.prog 68 2 2 := Fw.FieldT.of (m := 0) Try.underlying68 rfl (by kernel_rfl) rfl
theorem fl68_3 : Fw.FieldT Try.prog 68 3 3 := Fw.FieldT.of (m := 0) Try.underlying68 rfl (by kernel_rfl) rfl
theorem fl24_0 : Fw.FieldT Try.prog 24 0 0 := Fw.FieldT.of (m := 0) Try.underlying24 rfl (by kernel_rfl) rfl
theorem fl24_1 : Fw.FieldT Try.prog 24 1 1 := Fw.FieldT.of (m := 0) Try.underlying24 rfl (by kernel_rfl) rfl
theorem fl24_2 : Fw.FieldT Try.prog 24 2 2 := Fw.FieldT.of (m := 0) Try.underlying24 rfl (by kernel_rfl) rfl
theorem fl30_0 : Fw.FieldT Try.prog 30 0 0 := Fw.FieldT.of (m := 0) Try.underlying30 rfl (by kernel_rfl) rfl
theorem fl30_1 : Fw.FieldT Try.prog 30 1 1 := Fw.FieldT.of (m := 0) Try.underlying30 rfl (by kernel_rfl) rfl
theorem fl62_0 : Fw.FieldT Try.prog 62 0 0 := Fw.FieldT.of (m := 2) Try.underlying62 rfl (by kernel_rfl) rfl
theorem fl62_1 : Fw.FieldT Try.prog 62 1 3 := Fw.FieldT.of (m := 0) Try.underlying62 rfl (by kernel_rfl) rfl
theorem fl62_2 : Fw.FieldT Try.prog 62 2 4 := Fw.FieldT.of (m := 0) Try.underlying62 rfl (by kernel_rfl) rfl
theorem fl62_3 : Fw.FieldT Try.prog 62 3 5 := Fw.FieldT.of (m := 0) Try.underlying62 rfl (by kernel_rfl) rfl
theorem sc56 : Fw.ScalT Try.prog 56 := Fw.ScalT.of Try.underlying56 rfl
theorem sc28 : Fw.ScalT Try.prog 28 := Fw.ScalT.of Try.underlying28 rfl
theorem sc22 : Fw.ScalT Try.prog 22 := Fw.ScalT.of Try.underlying22 rfl
theorem sc26 : Fw.ScalT Try.prog 26 := Fw.ScalT.of Try.underlying26 rfl
theorem sc42 : Fw.ScalT Try.prog 42 := Fw.ScalT.of Try.underlying42 rfl
theorem sc25 : Fw.ScalT Try.prog 25 := Fw.ScalT.of Try.underlying25 rfl
theorem sc31 : Fw.ScalT Try.prog 31 := Fw.ScalT.of Try.underlying31 rfl
theorem sc4 : Fw.ScalT Try.prog 4 := Fw.ScalT.of Try.underlying4 rfl
theorem sc74 : Fw.ScalT Try.prog 74 := Fw.ScalT.of Try.underlying74 rfl
theorem sc2 : Fw.ScalT Try.prog 2 := Fw.ScalT.of Try.underlying2 rfl
theorem sc3 : Fw.ScalT Try.prog 3 := Fw.ScalT.of Try.underlying3 rfl
theorem sc93 : Fw.ScalT Try.prog 93 := Fw.ScalT.of Try.underlying93 rfl
theorem sc9 : Fw.ScalT Try.prog 9 := Fw.ScalT.of Try.underlying9 rfl
theorem sc50 : Fw.ScalT Try.prog 50 := Fw.ScalT.of Try.underlying50 rfl
theorem sc5 : Fw.ScalT Try.prog 5 := Fw.ScalT.of Try.underlying5 rfl
theorem sl56 : SlT Try.prog 56 42 1 24 := SlT.of (by kernel_rfl) (by kernel_rfl) (by omega)
theorem sl28 : SlT Try.prog 28 68 4 48 := SlT.of (by kernel_rfl) (by kernel_rfl) (by omega)
theorem sl22 : SlT Try.prog 22 30 2 40 := SlT.of (by kernel_rfl) (by kernel_rfl) (by omega)
theorem sl26 : SlT Try.prog 26 4 1 1 := SlT.of (by kernel_rfl) (by kernel_rfl) (by omega)
theorem sl42 : SlT Try.prog 42 3 1 8 := SlT.of (by kernel_rfl) (by kernel_rfl) (by omega)
theorem sl25 : SlT Try.prog 25 5 1 1 := SlT.of (by kernel_rfl) (by kernel_rfl) (by omega)
theorem sz56 : Fw.SizeT Try.prog 56 1 := Fw.SizeT.of (by kernel_rfl)
theorem sz28 : Fw.SizeT Try.prog 28 1 := Fw.SizeT.of (by kernel_rfl)
theorem sz22 : Fw.SizeT Try.prog 22 1 := Fw.SizeT.of (by kernel_rfl)
theorem sz26 : Fw.SizeT Try.prog 26 1 := Fw.SizeT.of (by kernel_rfl)
theorem sz42 : Fw.SizeT Try.prog 42 1 := Fw.SizeT.of (by kernel_rfl)
theorem sz25 : Fw.SizeT Try.prog 25 1 := Fw.SizeT.of (by kernel_rfl)
theorem sz68 : Fw.SizeT Try.prog 68 4 := Fw.SizeT.of (by kernel_rfl)
theorem sz31 : Fw.SizeT Try.prog 31 1 := Fw.SizeT.of (by kernel_rfl)
theorem sz24 : Fw.SizeT Try.prog 24 3 := Fw.SizeT.of (by kernel_rfl)
theorem sz30 : Fw.SizeT Try.prog 30 2 := Fw.SizeT.of (by kernel_rfl)
theorem sz4 : Fw.SizeT Try.prog 4 1 := Fw.SizeT.of (by kernel_rfl)
theorem sz74 : Fw.SizeT Try.prog 74 1 := Fw.SizeT.of (by kernel_rfl)
theorem sz2 : Fw.SizeT Try.prog 2 1 := Fw.SizeT.of (by kernel_rfl)
theorem sz62 : Fw.SizeT Try.prog 62 6 := Fw.SizeT.of (by kernel_rfl)
theorem sz3 : Fw.SizeT Try.prog 3 1 := Fw.SizeT.of (by kernel_rfl)
theorem sz93 : Fw.SizeT Try.prog 93 1 := Fw.SizeT.of (by kernel_rfl)
theorem sz9 : Fw.SizeT Try.prog 9 1 := Fw.SizeT.of (by kernel_rfl)
theorem sz50 : Fw.SizeT Try.prog 50 1 := Fw.SizeT.of (by kernel_rfl)
theorem sz5 : Fw.SizeT Try.prog 5 1 := Fw.SizeT.of (by kernel_rfl)
theorem ze56 : Fw.ZeroT Try.prog 56 (.slice none 0 0) := Fw.ZeroT.of (by kernel_rfl)
theorem ze26 : Fw.ZeroT Try.prog 26 (.slice none 0 0) := Fw.ZeroT.of (by kernel_rfl)
theorem ze42 : Fw.ZeroT Try.prog 42 (.slice none 0 0) := Fw.ZeroT.of (by kernel_rfl)
theorem ze68 : Fw.ZeroT Try.prog 68 (.agg #[.string .empty, .int .i64 0, .int .i64 0, .string .empty]) := Fw.ZeroT.of (by kernel_rfl)
theorem ze24 : Fw.ZeroT Try.prog 24 (.agg #[.string .empty, .int .i64 0, .slice none 0 0]) := Fw.ZeroT.of (by kernel_rfl)
theorem ze30 : Fw.ZeroT Try.prog 30 (.agg #[.string .empty, .slice none 0 0]) := Fw.ZeroT.of (by kernel_rfl)
theorem ze4 : Fw.ZeroT Try.prog 4 (.bool false) := Fw.ZeroT.of (by kernel_rfl)
theorem ze74 : Fw.ZeroT Try.prog 74 (.nilFunc) := Fw.ZeroT.of (by kernel_rfl)
theorem ze2 : Fw.ZeroT Try.prog 2 (.int .i64 0) := Fw.ZeroT.of (by kernel_rfl)
theorem ze62 : Fw.ZeroT Try.prog 62 (.agg #[.string .empty, .int .i64 0, .slice none 0 0, .slice none 0 0, .slice none 0 0, .int .i64 0]) := Fw.ZeroT.of (by kernel_rfl)
theorem ze3 : Fw.ZeroT Try.prog 3 (.int .i64 0) := Fw.ZeroT.of (by kernel_rfl)
theorem ze93 : Fw.ZeroT Try.prog 93 (.int .u64 0) := Fw.ZeroT.of (by kernel_rfl)
theorem zi42 : (Try.prog.info? 42).bind (·.zero) = some (.slice none 0 0) := by kernel_rfl
theorem zi25 : (Try.prog.info? 25).bind (·.zero) = some (.slice none 0 0) := by kernel_rfl
theorem zi68 : (Try.prog.info? 68).bind (·.zero) = some (.agg #[.string .empty, .int .i64 0, .int .i64 0, .string .empty]) := by kernel_rfl
theorem zi30 : (Try.prog.info? 30).bind (·.zero) = some (.agg #[.string .empty, .slice none 0 0]) := by kernel_rfl
theorem zi4 : (Try.prog.info? 4).bind (·.zero) = some (.bool false) := by kernel_rfl
theorem zi2 : (Try.prog.info? 2).bind (·.zero) = some (.int .i64 0) := by kernel_rfl
theorem zi3 : (Try.prog.info? 3).bind (·.zero) = some (.int .i64 0) := by kernel_rfl
theorem zi50 : (Try.prog.info? 50).bind (·.zero) = some (.int .u64 0) := by kernel_rfl
theorem zi5 : (Try.prog.info? 5).bind (·.zero) = some (.int .u8 0) := by kernel_rfl
end Go.Proofs.Ytpoacekefhblhaa
