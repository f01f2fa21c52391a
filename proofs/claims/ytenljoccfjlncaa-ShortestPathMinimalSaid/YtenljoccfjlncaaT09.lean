/- Closed facts on types and functions. -/
import Derived.Test.YtenljoccfjlncaaProg
import Derived.Test.YtenljoccfjlncaaGg
import Derived.Test.YtenljoccfjlncaaGh
namespace Go.Proofs.Ytenljoccfjlncaa
set_option linter.unusedSimpArgs false
set_option linter.unusedVariables false
set_option linter.unusedVariables false
open Go.RowKit
theorem ag57 : Fw.AggT Try.prog 57 3 := Fw.AggT.of Try.underlying57 rfl (by kernel_rfl)
theorem ag63 : Fw.AggT Try.prog 63 3 := Fw.AggT.of Try.underlying63 rfl (by kernel_rfl)
theorem ag24 : Fw.AggT Try.prog 24 2 := Fw.AggT.of Try.underlying24 rfl (by kernel_rfl)
theorem bu63_  : Try.prog.built 63 [] = some #[.int .i64 0, .int .i64 0, .int .i64 0] := by kernel_rfl
theorem bu63_0_1_2 (a0 : Int) (a1 : Int) (a2 : Int) : Try.prog.built 63 [(0, .int .i64 a0), (1, .int .i64 a1), (2, .int .i64 a2)] = some #[.int .i64 a0, .int .i64 a1, .int .i64 a2] := by kernel_rfl
theorem bu85_0_1_2 (a0 : Option Addr) (a0n a0c : Nat) (a1 : Option Addr) (a1n a1c : Nat) (a2 : Option Addr) (a2n a2c : Nat) : Try.prog.built 85 [(0, .slice a0 a0n a0c), (1, .slice a1 a1n a1c), (2, .slice a2 a2n a2c)] = some #[.slice a0 a0n a0c, .slice a1 a1n a1c, .slice a2 a2n a2c] := by kernel_rfl
theorem bu24_0 (a0 : Int) : Try.prog.built 24 [(0, .int .i64 a0)] = some #[.int .i64 a0, .slice none 0 0] := by kernel_rfl
theorem bu24_0_1 (a0 : Int) (a1 : Option Addr) (a1n a1c : Nat) : Try.prog.built 24 [(0, .int .i64 a0), (1, .slice a1 a1n a1c)] = some #[.int .i64 a0, .slice a1 a1n a1c] := by kernel_rfl
theorem cf45 : Fw.CallT Try.prog 45 := Fw.CallT.of Try.func45 (by kernel_rfl) (by kernel_rfl)
theorem cf35 : Fw.CallT Try.prog 35 := Fw.CallT.of Try.func35 (by kernel_rfl) (by kernel_rfl)
theorem cf43 : Fw.CallT Try.prog 43 := Fw.CallT.of Try.func43 (by kernel_rfl) (by kernel_rfl)
theorem cf41 : Fw.CallT Try.prog 41 := Fw.CallT.of Try.func41 (by kernel_rfl) (by kernel_rfl)
theorem cf34 : Fw.CallT Try.prog 34 := Fw.CallT.of Try.func34 (by kernel_rfl) (by kernel_rfl)
theorem cf44 : Fw.CallT Try.prog 44 := Fw.CallT.of Try.func44 (by kernel_rfl) (by kernel_rfl)
theorem cf42 : Fw.CallT Try.prog 42 := Fw.CallT.of Try.func42 (by kernel_rfl) (by kernel_rfl)
theorem cf28 : Fw.CallT Try.prog 28 := Fw.CallT.of Try.func28 (by kernel_rfl) (by kernel_rfl)
theorem cf39 : Fw.CallT Try.prog 39 := Fw.CallT.of Try.func39 (by kernel_rfl) (by kernel_rfl)
theorem cf47 : Fw.CallT Try.prog 47 := Fw.CallT.of Try.func47 (by kernel_rfl) (by kernel_rfl)
theorem cf46 : Fw.CallT Try.prog 46 := Fw.CallT.of Try.func46 (by kernel_rfl) (by kernel_rfl)
theorem cf3 : Fw.CallT Try.prog 3 := Fw.CallT.of Try.func3 (by kernel_rfl) (by kernel_rfl)
theorem cf8 : Fw.CallT Try.prog 8 := Fw.CallT.of Try.func8 (by kernel_rfl) (by kernel_rfl)
theorem cf7 : Fw.CallT Try.prog 7 := Fw.CallT.of Try.func7 (by kernel_rfl) (by kernel_rfl)
theorem cf5 : Fw.CallT Try.prog 5 := Fw.CallT.of Try.func5 (by kernel_rfl) (by kernel_rfl)
theorem cf4 : Fw.CallT Try.prog 4 := Fw.CallT.of Try.func4 (by kernel_rfl) (by kernel_rfl)
theorem cf9 : Fw.CallT Try.prog 9 := Fw.CallT.of Try.func9 (by kernel_rfl) (by kernel_rfl)
theorem cf10 : Fw.CallT Try.prog 10 := Fw.CallT.of Try.func10 (by kernel_rfl) (by kernel_rfl)
theorem cf6 : Fw.CallT Try.prog 6 := Fw.CallT.of Try.func6 (by kernel_rfl) (by kernel_rfl)
theorem cf12 : Fw.CallT Try.prog 12 := Fw.CallT.of Try.func12 (by kernel_rfl) (by kernel_rfl)
theorem cf13 : Fw.CallT Try.prog 13 := Fw.CallT.of Try.func13 (by kernel_rfl) (by kernel_rfl)
theorem cf17 : Fw.CallT Try.prog 17 := Fw.CallT.of Try.func17 (by kernel_rfl) (by kernel_rfl)
theorem cf16 : Fw.CallT Try.prog 16 := Fw.CallT.of Try.func16 (by kernel_rfl) (by kernel_rfl)
theorem cf11 : Fw.CallT Try.prog 11 := Fw.CallT.of Try.func11 (by kernel_rfl) (by kernel_rfl)
theorem cf24 : Fw.CallT Try.prog 24 := Fw.CallT.of Try.func24 (by kernel_rfl) (by kernel_rfl)
theorem cf22 : Fw.CallT Try.prog 22 := Fw.CallT.of Try.func22 (by kernel_rfl) (by kernel_rfl)
theorem cf18 : Fw.CallT Try.prog 18 := Fw.CallT.of Try.func18 (by kernel_rfl) (by kernel_rfl)
theorem cf27 : Fw.CallT Try.prog 27 := Fw.CallT.of Try.func27 (by kernel_rfl) (by kernel_rfl)
theorem cf14 : Fw.CallT Try.prog 14 := Fw.CallT.of Try.func14 (by kernel_rfl) (by kernel_rfl)
theorem cf32 : Fw.CallT Try.prog 32 := Fw.CallT.of Try.func32 (by kernel_rfl) (by kernel_rfl)
theorem cf26 : Fw.CallT Try.prog 26 := Fw.CallT.of Try.func26 (by kernel_rfl) (by kernel_rfl)
theorem cf20 : Fw.CallT Try.prog 20 := Fw.CallT.of Try.func20 (by kernel_rfl) (by kernel_rfl)
theorem cf36 : Fw.CallT Try.prog 36 := Fw.CallT.of Try.func36 (by kernel_rfl) (by kernel_rfl)
theorem cf31 : Fw.CallT Try.prog 31 := Fw.CallT.of Try.func31 (by kernel_rfl) (by kernel_rfl)
theorem cf15 : Fw.CallT Try.prog 15 := Fw.CallT.of Try.func15 (by kernel_rfl) (by kernel_rfl)
theorem cf21 : Fw.CallT Try.prog 21 := Fw.CallT.of Try.func21 (by kernel_rfl) (by kernel_rfl)
theorem cf19 : Fw.CallT Try.prog 19 := Fw.CallT.of Try.func19 (by kernel_rfl) (by kernel_rfl)
theorem cf25 : Fw.CallT Try.prog 25 := Fw.CallT.of Try.func25 (by kernel_rfl) (by kernel_rfl)
theorem cf23 : Fw.CallT Try.prog 23 := Fw.CallT.of Try.func23 (by kernel_rfl) (by kernel_rfl)
theorem cf33 : Fw.CallT Try.prog 33 := Fw.CallT.of Try.func33 (by kernel_rfl) (by kernel_rfl)
theorem cf29 : Fw.CallT Try.prog 29 := Fw.CallT.of Try.func29 (by kernel_rfl) (by kernel_rfl)
theorem cf30 : Fw.CallT Try.prog 30 := Fw.CallT.of Try.func30 (by kernel_rfl) (by kernel_rfl)
theorem cf37 : Fw.CallT Try.prog 37 := Fw.CallT.of Try.func37 (by kernel_rfl) (by kernel_rfl)
theorem cf40 : Fw.CallT Try.prog 40 := Fw.CallT.of Try.func40 (by kernel_rfl) (by kernel_rfl)
theorem cf38 : Fw.CallT Try.prog 38 := Fw.CallT.of Try.func38 (by kernel_rfl) (by kernel_rfl)
theorem fl63_0 : Fw.FieldT Try.prog 63 0 0 := Fw.FieldT.of (m := 0) Try.underlying63 rfl (by kernel_rfl) rfl
theorem fl63_1 : Fw.FieldT Try.prog 63 1 1 := Fw.FieldT.of (m := 0) Try.underlying63 rfl (by kernel_rfl) rfl
theorem fl63_2 : Fw.FieldT Try.prog 63 2 2 := Fw.FieldT.of (m := 0) Try.underlying63 rfl (by kernel_rfl) rfl
theorem fl85_0 : Fw.FieldT Try.prog 85 0 0 := Fw.FieldT.of (m := 0) Try.underlying85 rfl (by kernel_rfl) rfl
theorem fl85_1 : Fw.FieldT Try.prog 85 1 1 := Fw.FieldT.of (m := 0) Try.underlying85 rfl (by kernel_rfl) rfl
theorem fl85_2 : Fw.FieldT Try.prog 85 2 2 := Fw.FieldT.of (m := 0) Try.underlying85 rfl (by kernel_rfl) rfl
theorem fl50_0 : Fw.FieldT Try.prog 50 0 0 := Fw.FieldT.of (m := 0) Try.underlying50 rfl (by kernel_rfl) rfl
theorem fl50_1 : Fw.FieldT Try.prog 50 1 1 := Fw.FieldT.of (m := 0) Try.underlying50 rfl (by kernel_rfl) rfl
theorem fl43_0 : Fw.FieldT Try.prog 43 0 0 := Fw.FieldT.of (m := 0) Try.underlying43 rfl (by kernel_rfl) rfl
theorem fl43_1 : Fw.FieldT Try.prog 43 1 1 := Fw.FieldT.of (m := 0) Try.underlying43 rfl (by kernel_rfl) rfl
theorem fl43_2 : Fw.FieldT Try.prog 43 2 2 := Fw.FieldT.of (m := 0) Try.underlying43 rfl (by kernel_rfl) rfl
theorem fl54_0 : Fw.FieldT Try.prog 54 0 0 := Fw.FieldT.of (m := 0) Try.underlying54 rfl (by kernel_rfl) rfl
theorem fl54_1 : Fw.FieldT Try.prog 54 1 1 := Fw.FieldT.of (m := 0) Try.underlying54 rfl (by kernel_rfl) rfl
theorem fl54_2 : Fw.FieldT Try.prog 54 2 2 := Fw.FieldT.of (m := 0) Try.underlying54 rfl (by kernel_rfl) rfl
theorem fl54_3 : Fw.FieldT Try.prog 54 3 3 := Fw.FieldT.of (m := 0) Try.underlying54 rfl (by kernel_rfl) rfl
theorem fl24_0 : Fw.FieldT Try.prog 24 0 0 := Fw.FieldT.of (m := 0) Try.underlying24 rfl (by kernel_rfl) rfl
theorem fl24_1 : Fw.FieldT Try.prog 24 1 1 := Fw.FieldT.of (m := 0) Try.underlying24 rfl (by kernel_rfl) rfl
theorem sc27 : Fw.ScalT Try.prog 27 := Fw.ScalT.of Try.underlying27 rfl
theorem sc83 : Fw.ScalT Try.prog 83 := Fw.ScalT.of Try.underlying83 rfl
theorem sc22 : Fw.ScalT Try.prog 22 := Fw.ScalT.of Try.underlying22 rfl
theorem sc25 : Fw.ScalT Try.prog 25 := Fw.ScalT.of Try.underlying25 rfl
theorem sc26 : Fw.ScalT Try.prog 26 := Fw.ScalT.of Try.underlying26 rfl
theorem sc4 : Fw.ScalT Try.prog 4 := Fw.ScalT.of Try.underlying4 rfl
theorem sc2 : Fw.ScalT Try.prog 2 := Fw.ScalT.of Try.underlying2 rfl
theorem sc3 : Fw.ScalT Try.prog 3 := Fw.ScalT.of Try.underlying3 rfl
theorem sc78 : Fw.ScalT Try.prog 78 := Fw.ScalT.of Try.underlying78 rfl
theorem sl83 : SlT Try.prog 83 26 1 24 := SlT.of (by kernel_rfl) (by kernel_rfl) (by omega)
theorem sl22 : SlT Try.prog 22 63 3 24 := SlT.of (by kernel_rfl) (by kernel_rfl) (by omega)
theorem sl25 : SlT Try.prog 25 2 1 8 := SlT.of (by kernel_rfl) (by kernel_rfl) (by omega)
theorem sl26 : SlT Try.prog 26 3 1 8 := SlT.of (by kernel_rfl) (by kernel_rfl) (by omega)
theorem sl78 : SlT Try.prog 78 2 1 8 := SlT.of (by kernel_rfl) (by kernel_rfl) (by omega)
theorem sz27 : Fw.SizeT Try.prog 27 1 := Fw.SizeT.of (by kernel_rfl)
theorem sz37 : Fw.SizeT Try.prog 37 2 := Fw.SizeT.of (by kernel_rfl)
theorem sz57 : Fw.SizeT Try.prog 57 3 := Fw.SizeT.of (by kernel_rfl)
theorem sz83 : Fw.SizeT Try.prog 83 1 := Fw.SizeT.of (by kernel_rfl)
theorem sz22 : Fw.SizeT Try.prog 22 1 := Fw.SizeT.of (by kernel_rfl)
theorem sz25 : Fw.SizeT Try.prog 25 1 := Fw.SizeT.of (by kernel_rfl)
theorem sz26 : Fw.SizeT Try.prog 26 1 := Fw.SizeT.of (by kernel_rfl)
theorem sz63 : Fw.SizeT Try.prog 63 3 := Fw.SizeT.of (by kernel_rfl)
theorem sz4 : Fw.SizeT Try.prog 4 1 := Fw.SizeT.of (by kernel_rfl)
theorem sz2 : Fw.SizeT Try.prog 2 1 := Fw.SizeT.of (by kernel_rfl)
theorem sz3 : Fw.SizeT Try.prog 3 1 := Fw.SizeT.of (by kernel_rfl)
theorem sz85 : Fw.SizeT Try.prog 85 3 := Fw.SizeT.of (by kernel_rfl)
theorem sz50 : Fw.SizeT Try.prog 50 2 := Fw.SizeT.of (by kernel_rfl)
theorem sz43 : Fw.SizeT Try.prog 43 3 := Fw.SizeT.of (by kernel_rfl)
theorem sz54 : Fw.SizeT Try.prog 54 4 := Fw.SizeT.of (by kernel_rfl)
theorem sz24 : Fw.SizeT Try.prog 24 2 := Fw.SizeT.of (by kernel_rfl)
theorem sz78 : Fw.SizeT Try.prog 78 1 := Fw.SizeT.of (by kernel_rfl)
theorem ze27 : Fw.ZeroT Try.prog 27 (.pointer none) := Fw.ZeroT.of (by kernel_rfl)
theorem ze37 : Fw.ZeroT Try.prog 37 (.agg #[.int .i64 0, .int .i64 0]) := Fw.ZeroT.of (by kernel_rfl)
theorem ze57 : Fw.ZeroT Try.prog 57 (.agg #[.int .i64 0, .int .i64 0, .int .i64 0]) := Fw.ZeroT.of (by kernel_rfl)
theorem ze83 : Fw.ZeroT Try.prog 83 (.slice none 0 0) := Fw.ZeroT.of (by kernel_rfl)
theorem ze25 : Fw.ZeroT Try.prog 25 (.slice none 0 0) := Fw.ZeroT.of (by kernel_rfl)
theorem ze26 : Fw.ZeroT Try.prog 26 (.slice none 0 0) := Fw.ZeroT.of (by kernel_rfl)
theorem ze63 : Fw.ZeroT Try.prog 63 (.agg #[.int .i64 0, .int .i64 0, .int .i64 0]) := Fw.ZeroT.of (by kernel_rfl)
theorem ze4 : Fw.ZeroT Try.prog 4 (.bool false) := Fw.ZeroT.of (by kernel_rfl)
theorem ze2 : Fw.ZeroT Try.prog 2 (.int .i64 0) := Fw.ZeroT.of (by kernel_rfl)
theorem ze3 : Fw.ZeroT Try.prog 3 (.int .i64 0) := Fw.ZeroT.of (by kernel_rfl)
theorem ze85 : Fw.ZeroT Try.prog 85 (.agg #[.slice none 0 0, .slice none 0 0, .slice none 0 0]) := Fw.ZeroT.of (by kernel_rfl)
theorem ze50 : Fw.ZeroT Try.prog 50 (.agg #[.slice none 0 0, .slice none 0 0]) := Fw.ZeroT.of (by kernel_rfl)
theorem ze43 : Fw.ZeroT Try.prog 43 (.agg #[.slice none 0 0, .int .i64 0, .int .i64 0]) := Fw.ZeroT.of (by kernel_rfl)
theorem ze54 : Fw.ZeroT Try.prog 54 (.agg #[.int .i64 0, .int .i64 0, .slice none 0 0, .int .i64 0]) := Fw.ZeroT.of (by kernel_rfl)
theorem ze24 : Fw.ZeroT Try.prog 24 (.agg #[.int .i64 0, .slice none 0 0]) := Fw.ZeroT.of (by kernel_rfl)
theorem ze78 : Fw.ZeroT Try.prog 78 (.slice none 0 0) := Fw.ZeroT.of (by kernel_rfl)
theorem zi26 : (Try.prog.info? 26).bind (·.zero) = some (.slice none 0 0) := by kernel_rfl
theorem zi63 : (Try.prog.info? 63).bind (·.zero) = some (.agg #[.int .i64 0, .int .i64 0, .int .i64 0]) := by kernel_rfl
theorem zi2 : (Try.prog.info? 2).bind (·.zero) = some (.int .i64 0) := by kernel_rfl
theorem zi3 : (Try.prog.info? 3).bind (·.zero) = some (.int .i64 0) := by kernel_rfl
end Go.Proofs.Ytenljoccfjlncaa
