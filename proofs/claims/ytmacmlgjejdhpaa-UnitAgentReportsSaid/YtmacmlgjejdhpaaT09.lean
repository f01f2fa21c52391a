/- Closed facts on types and functions. -/
import Derived.Test.YtmacmlgjejdhpaaProg
import Derived.Test.YtmacmlgjejdhpaaGg
import Derived.Test.YtmacmlgjejdhpaaGh
namespace Go.Proofs.Ytmacmlgjejdhpaa
set_option linter.unusedSimpArgs false
set_option linter.unusedVariables false
set_option linter.unusedVariables false
open Go.RowKit
theorem ag75 : Fw.AggT Try.prog 75 3 := Fw.AggT.of Try.underlying75 rfl (by kernel_rfl)
theorem ag43 : Fw.AggT Try.prog 43 5 := Fw.AggT.of Try.underlying43 rfl (by kernel_rfl)
theorem ag48 : Fw.AggT Try.prog 48 5 := Fw.AggT.of Try.underlying48 rfl (by kernel_rfl)
theorem ag65 : Fw.AggT Try.prog 65 8 := Fw.AggT.of Try.underlying65 rfl (by kernel_rfl)
theorem ag26 : Fw.AggT Try.prog 26 4 := Fw.AggT.of Try.underlying26 rfl (by kernel_rfl)
theorem ag24 : Fw.AggT Try.prog 24 2 := Fw.AggT.of Try.underlying24 rfl (by kernel_rfl)
theorem ag45 : Fw.AggT Try.prog 45 6 := Fw.AggT.of Try.underlying45 rfl (by kernel_rfl)
theorem bu75_  : Try.prog.built 75 [] = some #[.int .i64 0, .int .i64 0, .int .i64 0] := by kernel_rfl
theorem bu75_0_1_2 (a0 : Int) (a1 : Int) (a2 : Int) : Try.prog.built 75 [(0, .int .i64 a0), (1, .int .i64 a1), (2, .int .i64 a2)] = some #[.int .i64 a0, .int .i64 a1, .int .i64 a2] := by kernel_rfl
theorem bu43_  : Try.prog.built 43 [] = some #[.int .i64 0, .int .i64 0, .int .i64 0, .int .i64 0, .int .i64 0] := by kernel_rfl
theorem bu43_0_1_2 (a0 : Int) (a1 : Int) (a2 : Int) : Try.prog.built 43 [(0, .int .i64 a0), (1, .int .i64 a1), (2, .int .i64 a2)] = some #[.int .i64 a0, .int .i64 a1, .int .i64 a2, .int .i64 0, .int .i64 0] := by kernel_rfl
theorem bu43_0_1_2_3_4 (a0 : Int) (a1 : Int) (a2 : Int) (a3 : Int) (a4 : Int) : Try.prog.built 43 [(0, .int .i64 a0), (1, .int .i64 a1), (2, .int .i64 a2), (3, .int .i64 a3), (4, .int .i64 a4)] = some #[.int .i64 a0, .int .i64 a1, .int .i64 a2, .int .i64 a3, .int .i64 a4] := by kernel_rfl
theorem bu48_  : Try.prog.built 48 [] = some #[.int .i64 0, .int .i64 0, .int .i64 0, .int .i64 0, .int .i64 0] := by kernel_rfl
theorem bu48_0_1_2_3_4 (a0 : Int) (a1 : Int) (a2 : Int) (a3 : Int) (a4 : Int) : Try.prog.built 48 [(0, .int .i64 a0), (1, .int .i64 a1), (2, .int .i64 a2), (3, .int .i64 a3), (4, .int .i64 a4)] = some #[.int .i64 a0, .int .i64 a1, .int .i64 a2, .int .i64 a3, .int .i64 a4] := by kernel_rfl
theorem bu93_0 (a0 : Int) : Try.prog.built 93 [(0, .int .i64 a0)] = some #[.int .i64 a0, .int .i64 0, .int .i64 0, .int .i64 0, .int .i64 0, .int .i64 0, .bool false] := by kernel_rfl
theorem bu90_0_1_2 (a0 : Option Addr) (a0n a0c : Nat) (a1 : Option Addr) (a1n a1c : Nat) (a2 : Option Addr) (a2n a2c : Nat) : Try.prog.built 90 [(0, .slice a0 a0n a0c), (1, .slice a1 a1n a1c), (2, .slice a2 a2n a2c)] = some #[.slice a0 a0n a0c, .slice a1 a1n a1c, .slice a2 a2n a2c] := by kernel_rfl
theorem bu26_0_2 (a0 : Int) (a2_0 : Int) (a2_1 : Option Addr) (a2_1n a2_1c : Nat) : Try.prog.built 26 [(0, .int .i64 a0), (2, .agg #[.int .i64 a2_0, .slice a2_1 a2_1n a2_1c])] = some #[.int .i64 a0, .int .i64 0, .int .i64 a2_0, .slice a2_1 a2_1n a2_1c] := by kernel_rfl
theorem bu24_0 (a0 : Int) : Try.prog.built 24 [(0, .int .i64 a0)] = some #[.int .i64 a0, .slice none 0 0] := by kernel_rfl
theorem bu24_0_1 (a0 : Int) (a1 : Option Addr) (a1n a1c : Nat) : Try.prog.built 24 [(0, .int .i64 a0), (1, .slice a1 a1n a1c)] = some #[.int .i64 a0, .slice a1 a1n a1c] := by kernel_rfl
theorem bu50_0_2_3_5 (a0_0 : Int) (a0_1 : Option Addr) (a0_1n a0_1c : Nat) (a2 : Int) (a3 : Int) (a5 : Int) : Try.prog.built 50 [(0, .agg #[.int .i64 a0_0, .slice a0_1 a0_1n a0_1c]), (2, .int .i64 a2), (3, .int .i64 a3), (5, .int .i64 a5)] = some #[.int .i64 a0_0, .slice a0_1 a0_1n a0_1c, .int .i64 0, .int .i64 0, .int .i64 0, .int .i64 0, .int .i64 0, .int .i64 0, .int .i64 a2, .int .i64 a3, .int .i64 0, .int .i64 a5, .slice none 0 0, .int .i64 0, .int .i64 0, .int .i64 0, .int .i64 0, .int .i64 0, .int .i64 0, .int .i64 0, .int .i64 0] := by kernel_rfl
theorem bu81_0_1_2_3_4_6 (a0 : Option Addr) (a1 : Option Addr) (a2 : Int) (a3 : Int) (a4 : Int) (a6 : Int) : Try.prog.built 81 [(0, .pointer a0), (1, .pointer a1), (2, .int .i64 a2), (3, .int .i64 a3), (4, .int .i64 a4), (6, .int .i64 a6)] = some #[.pointer a0, .pointer a1, .int .i64 a2, .int .i64 a3, .int .i64 a4, .int .i64 0, .int .i64 a6, .slice none 0 0, .int .i64 0, .int .i64 0, .int .i64 0, .int .i64 0, .int .i64 0, .int .i64 0, .int .i64 0, .int .i64 0] := by kernel_rfl
theorem cf32 : Fw.CallT Try.prog 32 := Fw.CallT.of Try.func32 (by kernel_rfl) (by kernel_rfl)
theorem cf35 : Fw.CallT Try.prog 35 := Fw.CallT.of Try.func35 (by kernel_rfl) (by kernel_rfl)
theorem cf66 : Fw.CallT Try.prog 66 := Fw.CallT.of Try.func66 (by kernel_rfl) (by kernel_rfl)
theorem cf47 : Fw.CallT Try.prog 47 := Fw.CallT.of Try.func47 (by kernel_rfl) (by kernel_rfl)
theorem cf69 : Fw.CallT Try.prog 69 := Fw.CallT.of Try.func69 (by kernel_rfl) (by kernel_rfl)
theorem cf27 : Fw.CallT Try.prog 27 := Fw.CallT.of Try.func27 (by kernel_rfl) (by kernel_rfl)
theorem cf63 : Fw.CallT Try.prog 63 := Fw.CallT.of Try.func63 (by kernel_rfl) (by kernel_rfl)
theorem cf53 : Fw.CallT Try.prog 53 := Fw.CallT.of Try.func53 (by kernel_rfl) (by kernel_rfl)
theorem cf37 : Fw.CallT Try.prog 37 := Fw.CallT.of Try.func37 (by kernel_rfl) (by kernel_rfl)
theorem cf18 : Fw.CallT Try.prog 18 := Fw.CallT.of Try.func18 (by kernel_rfl) (by kernel_rfl)
theorem cf36 : Fw.CallT Try.prog 36 := Fw.CallT.of Try.func36 (by kernel_rfl) (by kernel_rfl)
theorem cf39 : Fw.CallT Try.prog 39 := Fw.CallT.of Try.func39 (by kernel_rfl) (by kernel_rfl)
theorem cf17 : Fw.CallT Try.prog 17 := Fw.CallT.of Try.func17 (by kernel_rfl) (by kernel_rfl)
theorem cf41 : Fw.CallT Try.prog 41 := Fw.CallT.of Try.func41 (by kernel_rfl) (by kernel_rfl)
theorem cf40 : Fw.CallT Try.prog 40 := Fw.CallT.of Try.func40 (by kernel_rfl) (by kernel_rfl)
theorem cf55 : Fw.CallT Try.prog 55 := Fw.CallT.of Try.func55 (by kernel_rfl) (by kernel_rfl)
theorem cf56 : Fw.CallT Try.prog 56 := Fw.CallT.of Try.func56 (by kernel_rfl) (by kernel_rfl)
theorem cf65 : Fw.CallT Try.prog 65 := Fw.CallT.of Try.func65 (by kernel_rfl) (by kernel_rfl)
theorem cf70 : Fw.CallT Try.prog 70 := Fw.CallT.of Try.func70 (by kernel_rfl) (by kernel_rfl)
theorem cf68 : Fw.CallT Try.prog 68 := Fw.CallT.of Try.func68 (by kernel_rfl) (by kernel_rfl)
theorem cf13 : Fw.CallT Try.prog 13 := Fw.CallT.of Try.func13 (by kernel_rfl) (by kernel_rfl)
theorem cf20 : Fw.CallT Try.prog 20 := Fw.CallT.of Try.func20 (by kernel_rfl) (by kernel_rfl)
theorem cf16 : Fw.CallT Try.prog 16 := Fw.CallT.of Try.func16 (by kernel_rfl) (by kernel_rfl)
theorem cf15 : Fw.CallT Try.prog 15 := Fw.CallT.of Try.func15 (by kernel_rfl) (by kernel_rfl)
theorem cf26 : Fw.CallT Try.prog 26 := Fw.CallT.of Try.func26 (by kernel_rfl) (by kernel_rfl)
theorem cf19 : Fw.CallT Try.prog 19 := Fw.CallT.of Try.func19 (by kernel_rfl) (by kernel_rfl)
theorem cf23 : Fw.CallT Try.prog 23 := Fw.CallT.of Try.func23 (by kernel_rfl) (by kernel_rfl)
theorem cf14 : Fw.CallT Try.prog 14 := Fw.CallT.of Try.func14 (by kernel_rfl) (by kernel_rfl)
theorem cf38 : Fw.CallT Try.prog 38 := Fw.CallT.of Try.func38 (by kernel_rfl) (by kernel_rfl)
theorem cf31 : Fw.CallT Try.prog 31 := Fw.CallT.of Try.func31 (by kernel_rfl) (by kernel_rfl)
theorem cf34 : Fw.CallT Try.prog 34 := Fw.CallT.of Try.func34 (by kernel_rfl) (by kernel_rfl)
theorem cf33 : Fw.CallT Try.prog 33 := Fw.CallT.of Try.func33 (by kernel_rfl) (by kernel_rfl)
theorem cf29 : Fw.CallT Try.prog 29 := Fw.CallT.of Try.func29 (by kernel_rfl) (by kernel_rfl)
theorem cf28 : Fw.CallT Try.prog 28 := Fw.CallT.of Try.func28 (by kernel_rfl) (by kernel_rfl)
theorem cf51 : Fw.CallT Try.prog 51 := Fw.CallT.of Try.func51 (by kernel_rfl) (by kernel_rfl)
theorem cf58 : Fw.CallT Try.prog 58 := Fw.CallT.of Try.func58 (by kernel_rfl) (by kernel_rfl)
theorem cf59 : Fw.CallT Try.prog 59 := Fw.CallT.of Try.func59 (by kernel_rfl) (by kernel_rfl)
theorem cf45 : Fw.CallT Try.prog 45 := Fw.CallT.of Try.func45 (by kernel_rfl) (by kernel_rfl)
theorem cf25 : Fw.CallT Try.prog 25 := Fw.CallT.of Try.func25 (by kernel_rfl) (by kernel_rfl)
theorem cf43 : Fw.CallT Try.prog 43 := Fw.CallT.of Try.func43 (by kernel_rfl) (by kernel_rfl)
theorem cf75 : Fw.CallT Try.prog 75 := Fw.CallT.of Try.func75 (by kernel_rfl) (by kernel_rfl)
theorem cf71 : Fw.CallT Try.prog 71 := Fw.CallT.of Try.func71 (by kernel_rfl) (by kernel_rfl)
theorem cf4 : Fw.CallT Try.prog 4 := Fw.CallT.of Try.func4 (by kernel_rfl) (by kernel_rfl)
theorem cf3 : Fw.CallT Try.prog 3 := Fw.CallT.of Try.func3 (by kernel_rfl) (by kernel_rfl)
theorem cf7 : Fw.CallT Try.prog 7 := Fw.CallT.of Try.func7 (by kernel_rfl) (by kernel_rfl)
theorem cf6 : Fw.CallT Try.prog 6 := Fw.CallT.of Try.func6 (by kernel_rfl) (by kernel_rfl)
theorem cf5 : Fw.CallT Try.prog 5 := Fw.CallT.of Try.func5 (by kernel_rfl) (by kernel_rfl)
theorem cf9 : Fw.CallT Try.prog 9 := Fw.CallT.of Try.func9 (by kernel_rfl) (by kernel_rfl)
theorem cf21 : Fw.CallT Try.prog 21 := Fw.CallT.of Try.func21 (by kernel_rfl) (by kernel_rfl)
theorem cf22 : Fw.CallT Try.prog 22 := Fw.CallT.of Try.func22 (by kernel_rfl) (by kernel_rfl)
theorem cf8 : Fw.CallT Try.prog 8 := Fw.CallT.of Try.func8 (by kernel_rfl) (by kernel_rfl)
theorem cf12 : Fw.CallT Try.prog 12 := Fw.CallT.of Try.func12 (by kernel_rfl) (by kernel_rfl)
theorem cf77 : Fw.CallT Try.prog 77 := Fw.CallT.of Try.func77 (by kernel_rfl) (by kernel_rfl)
theorem cf76 : Fw.CallT Try.prog 76 := Fw.CallT.of Try.func76 (by kernel_rfl) (by kernel_rfl)
theorem cf24 : Fw.CallT Try.prog 24 := Fw.CallT.of Try.func24 (by kernel_rfl) (by kernel_rfl)
theorem cf74 : Fw.CallT Try.prog 74 := Fw.CallT.of Try.func74 (by kernel_rfl) (by kernel_rfl)
theorem cf72 : Fw.CallT Try.prog 72 := Fw.CallT.of Try.func72 (by kernel_rfl) (by kernel_rfl)
theorem cf64 : Fw.CallT Try.prog 64 := Fw.CallT.of Try.func64 (by kernel_rfl) (by kernel_rfl)
theorem cf73 : Fw.CallT Try.prog 73 := Fw.CallT.of Try.func73 (by kernel_rfl) (by kernel_rfl)
theorem cf42 : Fw.CallT Try.prog 42 := Fw.CallT.of Try.func42 (by kernel_rfl) (by kernel_rfl)
theorem cf30 : Fw.CallT Try.prog 30 := Fw.CallT.of Try.func30 (by kernel_rfl) (by kernel_rfl)
theorem cf54 : Fw.CallT Try.prog 54 := Fw.CallT.of Try.func54 (by kernel_rfl) (by kernel_rfl)
theorem cf50 : Fw.CallT Try.prog 50 := Fw.CallT.of Try.func50 (by kernel_rfl) (by kernel_rfl)
theorem cf49 : Fw.CallT Try.prog 49 := Fw.CallT.of Try.func49 (by kernel_rfl) (by kernel_rfl)
theorem cf48 : Fw.CallT Try.prog 48 := Fw.CallT.of Try.func48 (by kernel_rfl) (by kernel_rfl)
theorem cf10 : Fw.CallT Try.prog 10 := Fw.CallT.of Try.func10 (by kernel_rfl) (by kernel_rfl)
theorem cf57 : Fw.CallT Try.prog 57 := Fw.CallT.of Try.func57 (by kernel_rfl) (by kernel_rfl)
theorem cf52 : Fw.CallT Try.prog 52 := Fw.CallT.of Try.func52 (by kernel_rfl) (by kernel_rfl)
theorem cf60 : Fw.CallT Try.prog 60 := Fw.CallT.of Try.func60 (by kernel_rfl) (by kernel_rfl)
theorem cf62 : Fw.CallT Try.prog 62 := Fw.CallT.of Try.func62 (by kernel_rfl) (by kernel_rfl)
theorem cf61 : Fw.CallT Try.prog 61 := Fw.CallT.of Try.func61 (by kernel_rfl) (by kernel_rfl)
theorem cf67 : Fw.CallT Try.prog 67 := Fw.CallT.of Try.func67 (by kernel_rfl) (by kernel_rfl)
theorem cf11 : Fw.CallT Try.prog 11 := Fw.CallT.of Try.func11 (by kernel_rfl) (by kernel_rfl)
theorem cf46 : Fw.CallT Try.prog 46 := Fw.CallT.of Try.func46 (by kernel_rfl) (by kernel_rfl)
theorem cf44 : Fw.CallT Try.prog 44 := Fw.CallT.of Try.func44 (by kernel_rfl) (by kernel_rfl)
theorem eq48 : Fw.EqT Try.prog 48 5 := ⟨by kernel_rfl, by kernel_rfl, by kernel_rfl, by kernel_rfl, by kernel_rfl⟩
theorem fl75_0 : Fw.FieldT Try.prog 75 0 0 := Fw.FieldT.of (m := 0) Try.underlying75 rfl (by kernel_rfl) rfl
theorem fl75_1 : Fw.FieldT Try.prog 75 1 1 := Fw.FieldT.of (m := 0) Try.underlying75 rfl (by kernel_rfl) rfl
theorem fl75_2 : Fw.FieldT Try.prog 75 2 2 := Fw.FieldT.of (m := 0) Try.underlying75 rfl (by kernel_rfl) rfl
theorem fl43_0 : Fw.FieldT Try.prog 43 0 0 := Fw.FieldT.of (m := 0) Try.underlying43 rfl (by kernel_rfl) rfl
theorem fl43_1 : Fw.FieldT Try.prog 43 1 1 := Fw.FieldT.of (m := 0) Try.underlying43 rfl (by kernel_rfl) rfl
theorem fl43_2 : Fw.FieldT Try.prog 43 2 2 := Fw.FieldT.of (m := 0) Try.underlying43 rfl (by kernel_rfl) rfl
theorem fl43_3 : Fw.FieldT Try.prog 43 3 3 := Fw.FieldT.of (m := 0) Try.underlying43 rfl (by kernel_rfl) rfl
theorem fl43_4 : Fw.FieldT Try.prog 43 4 4 := Fw.FieldT.of (m := 0) Try.underlying43 rfl (by kernel_rfl) rfl
theorem fl48_0 : Fw.FieldT Try.prog 48 0 0 := Fw.FieldT.of (m := 0) Try.underlying48 rfl (by kernel_rfl) rfl
theorem fl48_1 : Fw.FieldT Try.prog 48 1 1 := Fw.FieldT.of (m := 0) Try.underlying48 rfl (by kernel_rfl) rfl
theorem fl48_2 : Fw.FieldT Try.prog 48 2 2 := Fw.FieldT.of (m := 0) Try.underlying48 rfl (by kernel_rfl) rfl
theorem fl48_3 : Fw.FieldT Try.prog 48 3 3 := Fw.FieldT.of (m := 0) Try.underlying48 rfl (by kernel_rfl) rfl
theorem fl48_4 : Fw.FieldT Try.prog 48 4 4 := Fw.FieldT.of (m := 0) Try.underlying48 rfl (by kernel_rfl) rfl
theorem fl93_0 : Fw.FieldT Try.prog 93 0 0 := Fw.FieldT.of (m := 0) Try.underlying93 rfl (by kernel_rfl) rfl
theorem fl93_1 : Fw.FieldT Try.prog 93 1 1 := Fw.FieldT.of (m := 4) Try.underlying93 rfl (by kernel_rfl) rfl
theorem fl93_2 : Fw.FieldT Try.prog 93 2 6 := Fw.FieldT.of (m := 0) Try.underlying93 rfl (by kernel_rfl) rfl
theorem fl90_0 : Fw.FieldT Try.prog 90 0 0 := Fw.FieldT.of (m := 0) Try.underlying90 rfl (by kernel_rfl) rfl
theorem fl90_1 : Fw.FieldT Try.prog 90 1 1 := Fw.FieldT.of (m := 0) Try.underlying90 rfl (by kernel_rfl) rfl
theorem fl90_2 : Fw.FieldT Try.prog 90 2 2 := Fw.FieldT.of (m := 0) Try.underlying90 rfl (by kernel_rfl) rfl
theorem fl65_0 : Fw.FieldT Try.prog 65 0 0 := Fw.FieldT.of (m := 0) Try.underlying65 rfl (by kernel_rfl) rfl
theorem fl65_1 : Fw.FieldT Try.prog 65 1 1 := Fw.FieldT.of (m := 0) Try.underlying65 rfl (by kernel_rfl) rfl
theorem fl65_2 : Fw.FieldT Try.prog 65 2 2 := Fw.FieldT.of (m := 0) Try.underlying65 rfl (by kernel_rfl) rfl
theorem fl65_3 : Fw.FieldT Try.prog 65 3 3 := Fw.FieldT.of (m := 4) Try.underlying65 rfl (by kernel_rfl) rfl
theorem fl57_0 : Fw.FieldT Try.prog 57 0 0 := Fw.FieldT.of (m := 4) Try.underlying57 rfl (by kernel_rfl) rfl
theorem fl57_1 : Fw.FieldT Try.prog 57 1 5 := Fw.FieldT.of (m := 2) Try.underlying57 rfl (by kernel_rfl) rfl
theorem fl26_0 : Fw.FieldT Try.prog 26 0 0 := Fw.FieldT.of (m := 0) Try.underlying26 rfl (by kernel_rfl) rfl
theorem fl26_1 : Fw.FieldT Try.prog 26 1 1 := Fw.FieldT.of (m := 0) Try.underlying26 rfl (by kernel_rfl) rfl
theorem fl26_2 : Fw.FieldT Try.prog 26 2 2 := Fw.FieldT.of (m := 1) Try.underlying26 rfl (by kernel_rfl) rfl
theorem fl24_0 : Fw.FieldT Try.prog 24 0 0 := Fw.FieldT.of (m := 0) Try.underlying24 rfl (by kernel_rfl) rfl
theorem fl24_1 : Fw.FieldT Try.prog 24 1 1 := Fw.FieldT.of (m := 0) Try.underlying24 rfl (by kernel_rfl) rfl
theorem fl45_0 : Fw.FieldT Try.prog 45 0 0 := Fw.FieldT.of (m := 0) Try.underlying45 rfl (by kernel_rfl) rfl
theorem fl45_1 : Fw.FieldT Try.prog 45 1 1 := Fw.FieldT.of (m := 4) Try.underlying45 rfl (by kernel_rfl) rfl
theorem fl50_0 : Fw.FieldT Try.prog 50 0 0 := Fw.FieldT.of (m := 1) Try.underlying50 rfl (by kernel_rfl) rfl
theorem fl50_1 : Fw.FieldT Try.prog 50 1 2 := Fw.FieldT.of (m := 5) Try.underlying50 rfl (by kernel_rfl) rfl
theorem fl50_10 : Fw.FieldT Try.prog 50 10 20 := Fw.FieldT.of (m := 0) Try.underlying50 rfl (by kernel_rfl) rfl
theorem fl50_2 : Fw.FieldT Try.prog 50 2 8 := Fw.FieldT.of (m := 0) Try.underlying50 rfl (by kernel_rfl) rfl
theorem fl50_3 : Fw.FieldT Try.prog 50 3 9 := Fw.FieldT.of (m := 0) Try.underlying50 rfl (by kernel_rfl) rfl
theorem fl50_4 : Fw.FieldT Try.prog 50 4 10 := Fw.FieldT.of (m := 0) Try.underlying50 rfl (by kernel_rfl) rfl
theorem fl50_5 : Fw.FieldT Try.prog 50 5 11 := Fw.FieldT.of (m := 0) Try.underlying50 rfl (by kernel_rfl) rfl
theorem fl50_6 : Fw.FieldT Try.prog 50 6 12 := Fw.FieldT.of (m := 0) Try.underlying50 rfl (by kernel_rfl) rfl
theorem fl50_7 : Fw.FieldT Try.prog 50 7 13 := Fw.FieldT.of (m := 0) Try.underlying50 rfl (by kernel_rfl) rfl
theorem fl50_8 : Fw.FieldT Try.prog 50 8 14 := Fw.FieldT.of (m := 0) Try.underlying50 rfl (by kernel_rfl) rfl
theorem fl50_9 : Fw.FieldT Try.prog 50 9 15 := Fw.FieldT.of (m := 4) Try.underlying50 rfl (by kernel_rfl) rfl
theorem fl81_0 : Fw.FieldT Try.prog 81 0 0 := Fw.FieldT.of (m := 0) Try.underlying81 rfl (by kernel_rfl) rfl
theorem fl81_1 : Fw.FieldT Try.prog 81 1 1 := Fw.FieldT.of (m := 0) Try.underlying81 rfl (by kernel_rfl) rfl
theorem fl81_10 : Fw.FieldT Try.prog 81 10 10 := Fw.FieldT.of (m := 4) Try.underlying81 rfl (by kernel_rfl) rfl
theorem fl81_11 : Fw.FieldT Try.prog 81 11 15 := Fw.FieldT.of (m := 0) Try.underlying81 rfl (by kernel_rfl) rfl
theorem fl81_2 : Fw.FieldT Try.prog 81 2 2 := Fw.FieldT.of (m := 0) Try.underlying81 rfl (by kernel_rfl) rfl
theorem fl81_3 : Fw.FieldT Try.prog 81 3 3 := Fw.FieldT.of (m := 0) Try.underlying81 rfl (by kernel_rfl) rfl
theorem fl81_4 : Fw.FieldT Try.prog 81 4 4 := Fw.FieldT.of (m := 0) Try.underlying81 rfl (by kernel_rfl) rfl
theorem fl81_5 : Fw.FieldT Try.prog 81 5 5 := Fw.FieldT.of (m := 0) Try.underlying81 rfl (by kernel_rfl) rfl
theorem fl81_6 : Fw.FieldT Try.prog 81 6 6 := Fw.FieldT.of (m := 0) Try.underlying81 rfl (by kernel_rfl) rfl
theorem fl81_7 : Fw.FieldT Try.prog 81 7 7 := Fw.FieldT.of (m := 0) Try.underlying81 rfl (by kernel_rfl) rfl
theorem fl81_8 : Fw.FieldT Try.prog 81 8 8 := Fw.FieldT.of (m := 0) Try.underlying81 rfl (by kernel_rfl) rfl
theorem fl81_9 : Fw.FieldT Try.prog 81 9 9 := Fw.FieldT.of (m := 0) Try.underlying81 rfl (by kernel_rfl) rfl
theorem sc77 : Fw.ScalT Try.prog 77 := Fw.ScalT.of Try.underlying77 rfl
theorem sc27 : Fw.ScalT Try.prog 27 := Fw.ScalT.of Try.underlying27 rfl
theorem sc88 : Fw.ScalT Try.prog 88 := Fw.ScalT.of Try.underlying88 rfl
theorem sc22 : Fw.ScalT Try.prog 22 := Fw.ScalT.of Try.underlying22 rfl
theorem sc100 : Fw.ScalT Try.prog 100 := Fw.ScalT.of Try.underlying100 rfl
theorem sc46 : Fw.ScalT Try.prog 46 := Fw.ScalT.of Try.underlying46 rfl
theorem sc4 : Fw.ScalT Try.prog 4 := Fw.ScalT.of Try.underlying4 rfl
theorem sc2 : Fw.ScalT Try.prog 2 := Fw.ScalT.of Try.underlying2 rfl
theorem sc3 : Fw.ScalT Try.prog 3 := Fw.ScalT.of Try.underlying3 rfl
theorem sc112 : Fw.ScalT Try.prog 112 := Fw.ScalT.of Try.underlying112 rfl
theorem sc5 : Fw.ScalT Try.prog 5 := Fw.ScalT.of Try.underlying5 rfl
theorem sl88 : SlT Try.prog 88 46 1 24 := SlT.of (by kernel_rfl) (by kernel_rfl) (by omega)
theorem sl22 : SlT Try.prog 22 75 3 24 := SlT.of (by kernel_rfl) (by kernel_rfl) (by omega)
theorem sl100 : SlT Try.prog 100 2 1 8 := SlT.of (by kernel_rfl) (by kernel_rfl) (by omega)
theorem sl46 : SlT Try.prog 46 3 1 8 := SlT.of (by kernel_rfl) (by kernel_rfl) (by omega)
theorem sl38 : SlT Try.prog 38 65 8 64 := SlT.of (by kernel_rfl) (by kernel_rfl) (by omega)
theorem sl39 : SlT Try.prog 39 5 1 1 := SlT.of (by kernel_rfl) (by kernel_rfl) (by omega)
theorem sl112 : SlT Try.prog 112 2 1 8 := SlT.of (by kernel_rfl) (by kernel_rfl) (by omega)
theorem sz77 : Fw.SizeT Try.prog 77 1 := Fw.SizeT.of (by kernel_rfl)
theorem sz27 : Fw.SizeT Try.prog 27 1 := Fw.SizeT.of (by kernel_rfl)
theorem sz88 : Fw.SizeT Try.prog 88 1 := Fw.SizeT.of (by kernel_rfl)
theorem sz22 : Fw.SizeT Try.prog 22 1 := Fw.SizeT.of (by kernel_rfl)
theorem sz100 : Fw.SizeT Try.prog 100 1 := Fw.SizeT.of (by kernel_rfl)
theorem sz46 : Fw.SizeT Try.prog 46 1 := Fw.SizeT.of (by kernel_rfl)
theorem sz75 : Fw.SizeT Try.prog 75 3 := Fw.SizeT.of (by kernel_rfl)
theorem sz43 : Fw.SizeT Try.prog 43 5 := Fw.SizeT.of (by kernel_rfl)
theorem sz48 : Fw.SizeT Try.prog 48 5 := Fw.SizeT.of (by kernel_rfl)
theorem sz4 : Fw.SizeT Try.prog 4 1 := Fw.SizeT.of (by kernel_rfl)
theorem sz2 : Fw.SizeT Try.prog 2 1 := Fw.SizeT.of (by kernel_rfl)
theorem sz3 : Fw.SizeT Try.prog 3 1 := Fw.SizeT.of (by kernel_rfl)
theorem sz93 : Fw.SizeT Try.prog 93 7 := Fw.SizeT.of (by kernel_rfl)
theorem sz90 : Fw.SizeT Try.prog 90 3 := Fw.SizeT.of (by kernel_rfl)
theorem sz65 : Fw.SizeT Try.prog 65 8 := Fw.SizeT.of (by kernel_rfl)
theorem sz57 : Fw.SizeT Try.prog 57 8 := Fw.SizeT.of (by kernel_rfl)
theorem sz26 : Fw.SizeT Try.prog 26 4 := Fw.SizeT.of (by kernel_rfl)
theorem sz24 : Fw.SizeT Try.prog 24 2 := Fw.SizeT.of (by kernel_rfl)
theorem sz45 : Fw.SizeT Try.prog 45 6 := Fw.SizeT.of (by kernel_rfl)
theorem sz50 : Fw.SizeT Try.prog 50 21 := Fw.SizeT.of (by kernel_rfl)
theorem sz112 : Fw.SizeT Try.prog 112 1 := Fw.SizeT.of (by kernel_rfl)
theorem sz5 : Fw.SizeT Try.prog 5 1 := Fw.SizeT.of (by kernel_rfl)
theorem sz81 : Fw.SizeT Try.prog 81 16 := Fw.SizeT.of (by kernel_rfl)
theorem ze27 : Fw.ZeroT Try.prog 27 (.pointer none) := Fw.ZeroT.of (by kernel_rfl)
theorem ze88 : Fw.ZeroT Try.prog 88 (.slice none 0 0) := Fw.ZeroT.of (by kernel_rfl)
theorem ze100 : Fw.ZeroT Try.prog 100 (.slice none 0 0) := Fw.ZeroT.of (by kernel_rfl)
theorem ze46 : Fw.ZeroT Try.prog 46 (.slice none 0 0) := Fw.ZeroT.of (by kernel_rfl)
theorem ze75 : Fw.ZeroT Try.prog 75 (.agg #[.int .i64 0, .int .i64 0, .int .i64 0]) := Fw.ZeroT.of (by kernel_rfl)
theorem ze43 : Fw.ZeroT Try.prog 43 (.agg #[.int .i64 0, .int .i64 0, .int .i64 0, .int .i64 0, .int .i64 0]) := Fw.ZeroT.of (by kernel_rfl)
theorem ze48 : Fw.ZeroT Try.prog 48 (.agg #[.int .i64 0, .int .i64 0, .int .i64 0, .int .i64 0, .int .i64 0]) := Fw.ZeroT.of (by kernel_rfl)
theorem ze4 : Fw.ZeroT Try.prog 4 (.bool false) := Fw.ZeroT.of (by kernel_rfl)
theorem ze2 : Fw.ZeroT Try.prog 2 (.int .i64 0) := Fw.ZeroT.of (by kernel_rfl)
theorem ze3 : Fw.ZeroT Try.prog 3 (.int .i64 0) := Fw.ZeroT.of (by kernel_rfl)
theorem ze93 : Fw.ZeroT Try.prog 93 (.agg #[.int .i64 0, .int .i64 0, .int .i64 0, .int .i64 0, .int .i64 0, .int .i64 0, .bool false]) := Fw.ZeroT.of (by kernel_rfl)
theorem ze90 : Fw.ZeroT Try.prog 90 (.agg #[.slice none 0 0, .slice none 0 0, .slice none 0 0]) := Fw.ZeroT.of (by kernel_rfl)
theorem ze65 : Fw.ZeroT Try.prog 65 (.agg #[.int .i64 0, .int .i64 0, .int .i64 0, .int .i64 0, .int .i64 0, .int .i64 0, .int .i64 0, .int .i64 0]) := Fw.ZeroT.of (by kernel_rfl)
theorem ze57 : Fw.ZeroT Try.prog 57 (.agg #[.int .i64 0, .int .i64 0, .int .i64 0, .int .i64 0, .int .i64 0, .int .i64 0, .int .i64 0, .int .i64 0]) := Fw.ZeroT.of (by kernel_rfl)
theorem ze26 : Fw.ZeroT Try.prog 26 (.agg #[.int .i64 0, .int .i64 0, .int .i64 0, .slice none 0 0]) := Fw.ZeroT.of (by kernel_rfl)
theorem ze24 : Fw.ZeroT Try.prog 24 (.agg #[.int .i64 0, .slice none 0 0]) := Fw.ZeroT.of (by kernel_rfl)
theorem ze45 : Fw.ZeroT Try.prog 45 (.agg #[.int .i64 0, .int .i64 0, .int .i64 0, .int .i64 0, .int .i64 0, .int .i64 0]) := Fw.ZeroT.of (by kernel_rfl)
theorem ze50 : Fw.ZeroT Try.prog 50 (.agg #[.int .i64 0, .slice none 0 0, .int .i64 0, .int .i64 0, .int .i64 0, .int .i64 0, .int .i64 0, .int .i64 0, .int .i64 0, .int .i64 0, .int .i64 0, .int .i64 0, .slice none 0 0, .int .i64 0, .int .i64 0, .int .i64 0, .int .i64 0, .int .i64 0, .int .i64 0, .int .i64 0, .int .i64 0]) := Fw.ZeroT.of (by kernel_rfl)
theorem ze112 : Fw.ZeroT Try.prog 112 (.slice none 0 0) := Fw.ZeroT.of (by kernel_rfl)
theorem ze81 : Fw.ZeroT Try.prog 81 (.agg #[.pointer none, .pointer none, .int .i64 0, .int .i64 0, .int .i64 0, .int .i64 0, .int .i64 0, .slice none 0 0, .int .i64 0, .int .i64 0, .int .i64 0, .int .i64 0, .int .i64 0, .int .i64 0, .int .i64 0, .int .i64 0]) := Fw.ZeroT.of (by kernel_rfl)
theorem zi46 : (Try.prog.info? 46).bind (·.zero) = some (.slice none 0 0) := by kernel_rfl
theorem zi75 : (Try.prog.info? 75).bind (·.zero) = some (.agg #[.int .i64 0, .int .i64 0, .int .i64 0]) := by kernel_rfl
theorem zi2 : (Try.prog.info? 2).bind (·.zero) = some (.int .i64 0) := by kernel_rfl
theorem zi3 : (Try.prog.info? 3).bind (·.zero) = some (.int .i64 0) := by kernel_rfl
theorem zi65 : (Try.prog.info? 65).bind (·.zero) = some (.agg #[.int .i64 0, .int .i64 0, .int .i64 0, .int .i64 0, .int .i64 0, .int .i64 0, .int .i64 0, .int .i64 0]) := by kernel_rfl
theorem zi5 : (Try.prog.info? 5).bind (·.zero) = some (.int .u8 0) := by kernel_rfl
end Go.Proofs.Ytmacmlgjejdhpaa
