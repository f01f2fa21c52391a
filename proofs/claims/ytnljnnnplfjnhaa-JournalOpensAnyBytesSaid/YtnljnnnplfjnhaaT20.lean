/- Closed facts on types and functions. -/
import Derived.Test.YtnljnnnplfjnhaaProg
import Derived.Test.YtnljnnnplfjnhaaFg
import Derived.Test.YtnljnnnplfjnhaaFh
namespace Go.Proofs.Ytnljnnnplfjnhaa
set_option linter.unusedSimpArgs false
set_option linter.unusedVariables false
set_option linter.unusedVariables false
open Go.RowKit
theorem ag29 : Fw.AggT Try.prog 29 2 := Fw.AggT.of Try.underlying29 rfl (by kernel_rfl)
theorem ag28 : Fw.AggT Try.prog 28 2 := Fw.AggT.of Try.underlying28 rfl (by kernel_rfl)
theorem bu76_0 (a0 : Option Addr) : Try.prog.built 76 [(0, .pointer a0)] = some #[.pointer a0, .slice none 0 0, .slice none 0 0] := by kernel_rfl
theorem bu29_  : Try.prog.built 29 [] = some #[.int .u8 0, .slice none 0 0] := by kernel_rfl
theorem bu29_0 (a0 : Int) : Try.prog.built 29 [(0, .int .u8 a0)] = some #[.int .u8 a0, .slice none 0 0] := by kernel_rfl
theorem bu29_0_1 (a0 : Int) (a1 : Option Addr) (a1n a1c : Nat) : Try.prog.built 29 [(0, .int .u8 a0), (1, .slice a1 a1n a1c)] = some #[.int .u8 a0, .slice a1 a1n a1c] := by kernel_rfl
theorem bu92_0 (a0 : Option Addr) (a0n a0c : Nat) : Try.prog.built 92 [(0, .slice a0 a0n a0c)] = some #[.slice a0 a0n a0c, .int .i64 0] := by kernel_rfl
theorem bu28_  : Try.prog.built 28 [] = some #[.int .u8 0, .slice none 0 0] := by kernel_rfl
theorem bu28_0_1 (a0 : Int) (a1 : Option Addr) (a1n a1c : Nat) : Try.prog.built 28 [(0, .int .u8 a0), (1, .slice a1 a1n a1c)] = some #[.int .u8 a0, .slice a1 a1n a1c] := by kernel_rfl
theorem bu73_  : Try.prog.built 73 [] = some #[.slice none 0 0, .int .i64 0, .bool false] := by kernel_rfl
theorem bu101_0 (a0 : Option Addr) (a0n a0c : Nat) : Try.prog.built 101 [(0, .slice a0 a0n a0c)] = some #[.slice a0 a0n a0c, .int .i64 0] := by kernel_rfl
theorem cf24 : Fw.CallT Try.prog 24 := Fw.CallT.of Try.func24 (by kernel_rfl) (by kernel_rfl)
theorem cf27 : Fw.CallT Try.prog 27 := Fw.CallT.of Try.func27 (by kernel_rfl) (by kernel_rfl)
theorem cf31 : Fw.CallT Try.prog 31 := Fw.CallT.of Try.func31 (by kernel_rfl) (by kernel_rfl)
theorem cf29 : Fw.CallT Try.prog 29 := Fw.CallT.of Try.func29 (by kernel_rfl) (by kernel_rfl)
theorem cf49 : Fw.CallT Try.prog 49 := Fw.CallT.of Try.func49 (by kernel_rfl) (by kernel_rfl)
theorem cf25 : Fw.CallT Try.prog 25 := Fw.CallT.of Try.func25 (by kernel_rfl) (by kernel_rfl)
theorem cf28 : Fw.CallT Try.prog 28 := Fw.CallT.of Try.func28 (by kernel_rfl) (by kernel_rfl)
theorem cf30 : Fw.CallT Try.prog 30 := Fw.CallT.of Try.func30 (by kernel_rfl) (by kernel_rfl)
theorem cf39 : Fw.CallT Try.prog 39 := Fw.CallT.of Try.func39 (by kernel_rfl) (by kernel_rfl)
theorem cf38 : Fw.CallT Try.prog 38 := Fw.CallT.of Try.func38 (by kernel_rfl) (by kernel_rfl)
theorem cf19 : Fw.CallT Try.prog 19 := Fw.CallT.of Try.func19 (by kernel_rfl) (by kernel_rfl)
theorem cf54 : Fw.CallT Try.prog 54 := Fw.CallT.of Try.func54 (by kernel_rfl) (by kernel_rfl)
theorem cf53 : Fw.CallT Try.prog 53 := Fw.CallT.of Try.func53 (by kernel_rfl) (by kernel_rfl)
theorem cf57 : Fw.CallT Try.prog 57 := Fw.CallT.of Try.func57 (by kernel_rfl) (by kernel_rfl)
theorem cf56 : Fw.CallT Try.prog 56 := Fw.CallT.of Try.func56 (by kernel_rfl) (by kernel_rfl)
theorem cf45 : Fw.CallT Try.prog 45 := Fw.CallT.of Try.func45 (by kernel_rfl) (by kernel_rfl)
theorem cf44 : Fw.CallT Try.prog 44 := Fw.CallT.of Try.func44 (by kernel_rfl) (by kernel_rfl)
theorem cf46 : Fw.CallT Try.prog 46 := Fw.CallT.of Try.func46 (by kernel_rfl) (by kernel_rfl)
theorem cf32 : Fw.CallT Try.prog 32 := Fw.CallT.of Try.func32 (by kernel_rfl) (by kernel_rfl)
theorem cf43 : Fw.CallT Try.prog 43 := Fw.CallT.of Try.func43 (by kernel_rfl) (by kernel_rfl)
theorem cf50 : Fw.CallT Try.prog 50 := Fw.CallT.of Try.func50 (by kernel_rfl) (by kernel_rfl)
theorem cf51 : Fw.CallT Try.prog 51 := Fw.CallT.of Try.func51 (by kernel_rfl) (by kernel_rfl)
theorem cf13 : Fw.CallT Try.prog 13 := Fw.CallT.of Try.func13 (by kernel_rfl) (by kernel_rfl)
theorem cf20 : Fw.CallT Try.prog 20 := Fw.CallT.of Try.func20 (by kernel_rfl) (by kernel_rfl)
theorem cf15 : Fw.CallT Try.prog 15 := Fw.CallT.of Try.func15 (by kernel_rfl) (by kernel_rfl)
theorem cf33 : Fw.CallT Try.prog 33 := Fw.CallT.of Try.func33 (by kernel_rfl) (by kernel_rfl)
theorem cf37 : Fw.CallT Try.prog 37 := Fw.CallT.of Try.func37 (by kernel_rfl) (by kernel_rfl)
theorem cf47 : Fw.CallT Try.prog 47 := Fw.CallT.of Try.func47 (by kernel_rfl) (by kernel_rfl)
theorem cf34 : Fw.CallT Try.prog 34 := Fw.CallT.of Try.func34 (by kernel_rfl) (by kernel_rfl)
theorem cf7 : Fw.CallT Try.prog 7 := Fw.CallT.of Try.func7 (by kernel_rfl) (by kernel_rfl)
theorem cf6 : Fw.CallT Try.prog 6 := Fw.CallT.of Try.func6 (by kernel_rfl) (by kernel_rfl)
theorem cf3 : Fw.CallT Try.prog 3 := Fw.CallT.of Try.func3 (by kernel_rfl) (by kernel_rfl)
theorem cf8 : Fw.CallT Try.prog 8 := Fw.CallT.of Try.func8 (by kernel_rfl) (by kernel_rfl)
theorem cf5 : Fw.CallT Try.prog 5 := Fw.CallT.of Try.func5 (by kernel_rfl) (by kernel_rfl)
theorem cf9 : Fw.CallT Try.prog 9 := Fw.CallT.of Try.func9 (by kernel_rfl) (by kernel_rfl)
theorem cf4 : Fw.CallT Try.prog 4 := Fw.CallT.of Try.func4 (by kernel_rfl) (by kernel_rfl)
theorem cf10 : Fw.CallT Try.prog 10 := Fw.CallT.of Try.func10 (by kernel_rfl) (by kernel_rfl)
theorem cf23 : Fw.CallT Try.prog 23 := Fw.CallT.of Try.func23 (by kernel_rfl) (by kernel_rfl)
theorem cf12 : Fw.CallT Try.prog 12 := Fw.CallT.of Try.func12 (by kernel_rfl) (by kernel_rfl)
theorem cf42 : Fw.CallT Try.prog 42 := Fw.CallT.of Try.func42 (by kernel_rfl) (by kernel_rfl)
theorem cf36 : Fw.CallT Try.prog 36 := Fw.CallT.of Try.func36 (by kernel_rfl) (by kernel_rfl)
theorem cf48 : Fw.CallT Try.prog 48 := Fw.CallT.of Try.func48 (by kernel_rfl) (by kernel_rfl)
theorem cf35 : Fw.CallT Try.prog 35 := Fw.CallT.of Try.func35 (by kernel_rfl) (by kernel_rfl)
theorem cf55 : Fw.CallT Try.prog 55 := Fw.CallT.of Try.func55 (by kernel_rfl) (by kernel_rfl)
theorem cf41 : Fw.CallT Try.prog 41 := Fw.CallT.of Try.func41 (by kernel_rfl) (by kernel_rfl)
theorem cf14 : Fw.CallT Try.prog 14 := Fw.CallT.of Try.func14 (by kernel_rfl) (by kernel_rfl)
theorem cf17 : Fw.CallT Try.prog 17 := Fw.CallT.of Try.func17 (by kernel_rfl) (by kernel_rfl)
theorem cf26 : Fw.CallT Try.prog 26 := Fw.CallT.of Try.func26 (by kernel_rfl) (by kernel_rfl)
theorem cf21 : Fw.CallT Try.prog 21 := Fw.CallT.of Try.func21 (by kernel_rfl) (by kernel_rfl)
theorem cf22 : Fw.CallT Try.prog 22 := Fw.CallT.of Try.func22 (by kernel_rfl) (by kernel_rfl)
theorem cf16 : Fw.CallT Try.prog 16 := Fw.CallT.of Try.func16 (by kernel_rfl) (by kernel_rfl)
theorem cf11 : Fw.CallT Try.prog 11 := Fw.CallT.of Try.func11 (by kernel_rfl) (by kernel_rfl)
theorem cf40 : Fw.CallT Try.prog 40 := Fw.CallT.of Try.func40 (by kernel_rfl) (by kernel_rfl)
theorem cf18 : Fw.CallT Try.prog 18 := Fw.CallT.of Try.func18 (by kernel_rfl) (by kernel_rfl)
theorem cf52 : Fw.CallT Try.prog 52 := Fw.CallT.of Try.func52 (by kernel_rfl) (by kernel_rfl)
theorem fl76_0 : Fw.FieldT Try.prog 76 0 0 := Fw.FieldT.of (m := 0) Try.underlying76 rfl (by kernel_rfl) rfl
theorem fl76_1 : Fw.FieldT Try.prog 76 1 1 := Fw.FieldT.of (m := 0) Try.underlying76 rfl (by kernel_rfl) rfl
theorem fl76_2 : Fw.FieldT Try.prog 76 2 2 := Fw.FieldT.of (m := 0) Try.underlying76 rfl (by kernel_rfl) rfl
theorem fl29_0 : Fw.FieldT Try.prog 29 0 0 := Fw.FieldT.of (m := 0) Try.underlying29 rfl (by kernel_rfl) rfl
theorem fl29_1 : Fw.FieldT Try.prog 29 1 1 := Fw.FieldT.of (m := 0) Try.underlying29 rfl (by kernel_rfl) rfl
theorem fl92_0 : Fw.FieldT Try.prog 92 0 0 := Fw.FieldT.of (m := 0) Try.underlying92 rfl (by kernel_rfl) rfl
theorem fl92_1 : Fw.FieldT Try.prog 92 1 1 := Fw.FieldT.of (m := 0) Try.underlying92 rfl (by kernel_rfl) rfl
theorem fl28_0 : Fw.FieldT Try.prog 28 0 0 := Fw.FieldT.of (m := 0) Try.underlying28 rfl (by kernel_rfl) rfl
theorem fl28_1 : Fw.FieldT Try.prog 28 1 1 := Fw.FieldT.of (m := 0) Try.underlying28 rfl (by kernel_rfl) rfl
theorem fl73_0 : Fw.FieldT Try.prog 73 0 0 := Fw.FieldT.of (m := 0) Try.underlying73 rfl (by kernel_rfl) rfl
theorem fl73_1 : Fw.FieldT Try.prog 73 1 1 := Fw.FieldT.of (m := 0) Try.underlying73 rfl (by kernel_rfl) rfl
theorem fl73_2 : Fw.FieldT Try.prog 73 2 2 := Fw.FieldT.of (m := 0) Try.underlying73 rfl (by kernel_rfl) rfl
theorem fl101_0 : Fw.FieldT Try.prog 101 0 0 := Fw.FieldT.of (m := 0) Try.underlying101 rfl (by kernel_rfl) rfl
theorem fl101_1 : Fw.FieldT Try.prog 101 1 1 := Fw.FieldT.of (m := 0) Try.underlying101 rfl (by kernel_rfl) rfl
theorem fl85_0 : Fw.FieldT Try.prog 85 0 0 := Fw.FieldT.of (m := 0) Try.underlying85 rfl (by kernel_rfl) rfl
theorem sc41 : Fw.ScalT Try.prog 41 := Fw.ScalT.of Try.underlying41 rfl
theorem sc25 : Fw.ScalT Try.prog 25 := Fw.ScalT.of Try.underlying25 rfl
theorem sc74 : Fw.ScalT Try.prog 74 := Fw.ScalT.of Try.underlying74 rfl
theorem sc26 : Fw.ScalT Try.prog 26 := Fw.ScalT.of Try.underlying26 rfl
theorem sc31 : Fw.ScalT Try.prog 31 := Fw.ScalT.of Try.underlying31 rfl
theorem sc4 : Fw.ScalT Try.prog 4 := Fw.ScalT.of Try.underlying4 rfl
theorem sc3 : Fw.ScalT Try.prog 3 := Fw.ScalT.of Try.underlying3 rfl
theorem sc54 : Fw.ScalT Try.prog 54 := Fw.ScalT.of Try.underlying54 rfl
theorem sc37 : Fw.ScalT Try.prog 37 := Fw.ScalT.of Try.underlying37 rfl
theorem sc5 : Fw.ScalT Try.prog 5 := Fw.ScalT.of Try.underlying5 rfl
theorem sl62 : SlT Try.prog 62 4 1 1 := SlT.of (by kernel_rfl) (by kernel_rfl) (by omega)
theorem sl25 : SlT Try.prog 25 29 2 32 := SlT.of (by kernel_rfl) (by kernel_rfl) (by omega)
theorem sl22 : SlT Try.prog 22 28 2 32 := SlT.of (by kernel_rfl) (by kernel_rfl) (by omega)
theorem sl74 : SlT Try.prog 74 37 1 8 := SlT.of (by kernel_rfl) (by kernel_rfl) (by omega)
theorem sl26 : SlT Try.prog 26 5 1 1 := SlT.of (by kernel_rfl) (by kernel_rfl) (by omega)
theorem sz41 : Fw.SizeT Try.prog 41 1 := Fw.SizeT.of (by kernel_rfl)
theorem sz63 : Fw.SizeT Try.prog 63 2 := Fw.SizeT.of (by kernel_rfl)
theorem sz25 : Fw.SizeT Try.prog 25 1 := Fw.SizeT.of (by kernel_rfl)
theorem sz74 : Fw.SizeT Try.prog 74 1 := Fw.SizeT.of (by kernel_rfl)
theorem sz26 : Fw.SizeT Try.prog 26 1 := Fw.SizeT.of (by kernel_rfl)
theorem sz31 : Fw.SizeT Try.prog 31 1 := Fw.SizeT.of (by kernel_rfl)
theorem sz4 : Fw.SizeT Try.prog 4 1 := Fw.SizeT.of (by kernel_rfl)
theorem sz3 : Fw.SizeT Try.prog 3 1 := Fw.SizeT.of (by kernel_rfl)
theorem sz76 : Fw.SizeT Try.prog 76 3 := Fw.SizeT.of (by kernel_rfl)
theorem sz29 : Fw.SizeT Try.prog 29 2 := Fw.SizeT.of (by kernel_rfl)
theorem sz92 : Fw.SizeT Try.prog 92 2 := Fw.SizeT.of (by kernel_rfl)
theorem sz28 : Fw.SizeT Try.prog 28 2 := Fw.SizeT.of (by kernel_rfl)
theorem sz73 : Fw.SizeT Try.prog 73 3 := Fw.SizeT.of (by kernel_rfl)
theorem sz54 : Fw.SizeT Try.prog 54 1 := Fw.SizeT.of (by kernel_rfl)
theorem sz37 : Fw.SizeT Try.prog 37 1 := Fw.SizeT.of (by kernel_rfl)
theorem sz5 : Fw.SizeT Try.prog 5 1 := Fw.SizeT.of (by kernel_rfl)
theorem sz101 : Fw.SizeT Try.prog 101 2 := Fw.SizeT.of (by kernel_rfl)
theorem sz85 : Fw.SizeT Try.prog 85 1 := Fw.SizeT.of (by kernel_rfl)
theorem ze63 : Fw.ZeroT Try.prog 63 (.agg #[.int .u16 0, .int .u16 0]) := Fw.ZeroT.of (by kernel_rfl)
theorem ze76 : Fw.ZeroT Try.prog 76 (.agg #[.pointer none, .slice none 0 0, .slice none 0 0]) := Fw.ZeroT.of (by kernel_rfl)
theorem ze29 : Fw.ZeroT Try.prog 29 (.agg #[.int .u8 0, .slice none 0 0]) := Fw.ZeroT.of (by kernel_rfl)
theorem ze92 : Fw.ZeroT Try.prog 92 (.agg #[.slice none 0 0, .int .i64 0]) := Fw.ZeroT.of (by kernel_rfl)
theorem ze28 : Fw.ZeroT Try.prog 28 (.agg #[.int .u8 0, .slice none 0 0]) := Fw.ZeroT.of (by kernel_rfl)
theorem ze73 : Fw.ZeroT Try.prog 73 (.agg #[.slice none 0 0, .int .i64 0, .bool false]) := Fw.ZeroT.of (by kernel_rfl)
theorem ze101 : Fw.ZeroT Try.prog 101 (.agg #[.slice none 0 0, .int .i64 0]) := Fw.ZeroT.of (by kernel_rfl)
theorem ze85 : Fw.ZeroT Try.prog 85 (.agg #[.slice none 0 0]) := Fw.ZeroT.of (by kernel_rfl)
theorem zi4 : (Try.prog.info? 4).bind (·.zero) = some (.bool false) := by kernel_rfl
theorem zi29 : (Try.prog.info? 29).bind (·.zero) = some (.agg #[.int .u8 0, .slice none 0 0]) := by kernel_rfl
theorem zi28 : (Try.prog.info? 28).bind (·.zero) = some (.agg #[.int .u8 0, .slice none 0 0]) := by kernel_rfl
theorem zi37 : (Try.prog.info? 37).bind (·.zero) = some (.int .u64 0) := by kernel_rfl
theorem zi5 : (Try.prog.info? 5).bind (·.zero) = some (.int .u8 0) := by kernel_rfl
end Go.Proofs.Ytnljnnnplfjnhaa
