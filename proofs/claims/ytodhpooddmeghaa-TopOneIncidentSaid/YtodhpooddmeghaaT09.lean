/- Closed facts on types and functions. -/
import Derived.Test.YtodhpooddmeghaaProg
import Derived.Test.YtodhpooddmeghaaGg
import Derived.Test.YtodhpooddmeghaaGh
namespace Go.Proofs.Ytodhpooddmeghaa
set_option linter.unusedSimpArgs false
set_option linter.unusedVariables false
set_option linter.unusedVariables false
open Go.RowKit
theorem ag29 : Fw.AggT Try.prog 29 3 := Fw.AggT.of Try.underlying29 rfl (by kernel_rfl)
theorem ag50 : Fw.AggT Try.prog 50 5 := Fw.AggT.of Try.underlying50 rfl (by kernel_rfl)
theorem ag60 : Fw.AggT Try.prog 60 5 := Fw.AggT.of Try.underlying60 rfl (by kernel_rfl)
theorem ag35 : Fw.AggT Try.prog 35 3 := Fw.AggT.of Try.underlying35 rfl (by kernel_rfl)
theorem ag69 : Fw.AggT Try.prog 69 10 := Fw.AggT.of Try.underlying69 rfl (by kernel_rfl)
theorem ag42 : Fw.AggT Try.prog 42 2 := Fw.AggT.of Try.underlying42 rfl (by kernel_rfl)
theorem bu29_  : Try.prog.built 29 [] = some #[.int .i64 0, .int .i64 0, .int .i64 0] := by kernel_rfl
theorem bu29_0_1_2 (a0 : Int) (a1 : Int) (a2 : Int) : Try.prog.built 29 [(0, .int .i64 a0), (1, .int .i64 a1), (2, .int .i64 a2)] = some #[.int .i64 a0, .int .i64 a1, .int .i64 a2] := by kernel_rfl
theorem bu50_  : Try.prog.built 50 [] = some #[.int .i64 0, .int .i64 0, .int .i64 0, .int .i64 0, .int .i64 0] := by kernel_rfl
theorem bu50_0_1_2 (a0 : Int) (a1 : Int) (a2 : Int) : Try.prog.built 50 [(0, .int .i64 a0), (1, .int .i64 a1), (2, .int .i64 a2)] = some #[.int .i64 a0, .int .i64 a1, .int .i64 a2, .int .i64 0, .int .i64 0] := by kernel_rfl
theorem bu50_0_1_2_3_4 (a0 : Int) (a1 : Int) (a2 : Int) (a3 : Int) (a4 : Int) : Try.prog.built 50 [(0, .int .i64 a0), (1, .int .i64 a1), (2, .int .i64 a2), (3, .int .i64 a3), (4, .int .i64 a4)] = some #[.int .i64 a0, .int .i64 a1, .int .i64 a2, .int .i64 a3, .int .i64 a4] := by kernel_rfl
theorem bu60_  : Try.prog.built 60 [] = some #[.int .i64 0, .int .i64 0, .int .i64 0, .int .i64 0, .int .i64 0] := by kernel_rfl
theorem bu60_0_1_2_3_4 (a0 : Int) (a1 : Int) (a2 : Int) (a3 : Int) (a4 : Int) : Try.prog.built 60 [(0, .int .i64 a0), (1, .int .i64 a1), (2, .int .i64 a2), (3, .int .i64 a3), (4, .int .i64 a4)] = some #[.int .i64 a0, .int .i64 a1, .int .i64 a2, .int .i64 a3, .int .i64 a4] := by kernel_rfl
theorem bu35_0 (a0 : Int) : Try.prog.built 35 [(0, .int .i64 a0)] = some #[.int .i64 a0, .int .i64 0, .int .i64 0] := by kernel_rfl
theorem bu69_  : Try.prog.built 69 [] = some #[.int .i64 0, .int .i64 0, .int .i64 0, .int .i64 0, .int .i64 0, .int .i64 0, .int .i64 0, .int .i64 0, .int .i64 0, .int .i64 0] := by kernel_rfl
theorem bu69_0_1_2_4_3 (a0 : Int) (a1 : Int) (a2 : Int) (a3 : Int) (a4 : Int) : Try.prog.built 69 [(0, .int .i64 a0), (1, .int .i64 a1), (2, .int .i64 a2), (4, .int .i64 a4), (3, .int .i64 a3)] = some #[.int .i64 a0, .int .i64 a1, .int .i64 a2, .int .i64 a3, .int .i64 a4, .int .i64 0, .int .i64 0, .int .i64 0, .int .i64 0, .int .i64 0] := by kernel_rfl
theorem bu109_0 (a0 : Int) : Try.prog.built 109 [(0, .int .i64 a0)] = some #[.int .i64 a0, .int .i64 0, .int .i64 0, .int .i64 0, .int .i64 0, .int .i64 0, .bool false] := by kernel_rfl
theorem bu107_0_1_2 (a0 : Option Addr) (a0n a0c : Nat) (a1 : Option Addr) (a1n a1c : Nat) (a2 : Option Addr) (a2n a2c : Nat) : Try.prog.built 107 [(0, .slice a0 a0n a0c), (1, .slice a1 a1n a1c), (2, .slice a2 a2n a2c)] = some #[.slice a0 a0n a0c, .slice a1 a1n a1c, .slice a2 a2n a2c] := by kernel_rfl
theorem bu89_0_1_2_3_4_6 (a0 : Option Addr) (a1 : Option Addr) (a2 : Int) (a3 : Int) (a4 : Int) (a6 : Int) : Try.prog.built 89 [(0, .pointer a0), (1, .pointer a1), (2, .int .i64 a2), (3, .int .i64 a3), (4, .int .i64 a4), (6, .int .i64 a6)] = some #[.pointer a0, .pointer a1, .int .i64 a2, .int .i64 a3, .int .i64 a4, .int .i64 0, .int .i64 a6, .slice none 0 0, .int .i64 0, .int .i64 0, .int .i64 0, .int .i64 0, .int .i64 0, .int .i64 0, .int .i64 0, .int .i64 0] := by kernel_rfl
theorem bu80_0 (a0 : Option Addr) (a0n a0c : Nat) : Try.prog.built 80 [(0, .slice a0 a0n a0c)] = some #[.slice a0 a0n a0c] := by kernel_rfl
theorem bu117_0 (a0 : Option Addr) (a0n a0c : Nat) : Try.prog.built 117 [(0, .slice a0 a0n a0c)] = some #[.slice a0 a0n a0c, .int .i64 0] := by kernel_rfl
theorem cf45 : Fw.CallT Try.prog 45 := Fw.CallT.of Try.func45 (by kernel_rfl) (by kernel_rfl)
theorem cf61 : Fw.CallT Try.prog 61 := Fw.CallT.of Try.func61 (by kernel_rfl) (by kernel_rfl)
theorem cf67 : Fw.CallT Try.prog 67 := Fw.CallT.of Try.func67 (by kernel_rfl) (by kernel_rfl)
theorem cf54 : Fw.CallT Try.prog 54 := Fw.CallT.of Try.func54 (by kernel_rfl) (by kernel_rfl)
theorem cf70 : Fw.CallT Try.prog 70 := Fw.CallT.of Try.func70 (by kernel_rfl) (by kernel_rfl)
theorem cf29 : Fw.CallT Try.prog 29 := Fw.CallT.of Try.func29 (by kernel_rfl) (by kernel_rfl)
theorem cf66 : Fw.CallT Try.prog 66 := Fw.CallT.of Try.func66 (by kernel_rfl) (by kernel_rfl)
theorem cf60 : Fw.CallT Try.prog 60 := Fw.CallT.of Try.func60 (by kernel_rfl) (by kernel_rfl)
theorem cf71 : Fw.CallT Try.prog 71 := Fw.CallT.of Try.func71 (by kernel_rfl) (by kernel_rfl)
theorem cf69 : Fw.CallT Try.prog 69 := Fw.CallT.of Try.func69 (by kernel_rfl) (by kernel_rfl)
theorem cf8 : Fw.CallT Try.prog 8 := Fw.CallT.of Try.func8 (by kernel_rfl) (by kernel_rfl)
theorem cf48 : Fw.CallT Try.prog 48 := Fw.CallT.of Try.func48 (by kernel_rfl) (by kernel_rfl)
theorem cf24 : Fw.CallT Try.prog 24 := Fw.CallT.of Try.func24 (by kernel_rfl) (by kernel_rfl)
theorem cf21 : Fw.CallT Try.prog 21 := Fw.CallT.of Try.func21 (by kernel_rfl) (by kernel_rfl)
theorem cf16 : Fw.CallT Try.prog 16 := Fw.CallT.of Try.func16 (by kernel_rfl) (by kernel_rfl)
theorem cf17 : Fw.CallT Try.prog 17 := Fw.CallT.of Try.func17 (by kernel_rfl) (by kernel_rfl)
theorem cf22 : Fw.CallT Try.prog 22 := Fw.CallT.of Try.func22 (by kernel_rfl) (by kernel_rfl)
theorem cf44 : Fw.CallT Try.prog 44 := Fw.CallT.of Try.func44 (by kernel_rfl) (by kernel_rfl)
theorem cf47 : Fw.CallT Try.prog 47 := Fw.CallT.of Try.func47 (by kernel_rfl) (by kernel_rfl)
theorem cf46 : Fw.CallT Try.prog 46 := Fw.CallT.of Try.func46 (by kernel_rfl) (by kernel_rfl)
theorem cf31 : Fw.CallT Try.prog 31 := Fw.CallT.of Try.func31 (by kernel_rfl) (by kernel_rfl)
theorem cf9 : Fw.CallT Try.prog 9 := Fw.CallT.of Try.func9 (by kernel_rfl) (by kernel_rfl)
theorem cf12 : Fw.CallT Try.prog 12 := Fw.CallT.of Try.func12 (by kernel_rfl) (by kernel_rfl)
theorem cf11 : Fw.CallT Try.prog 11 := Fw.CallT.of Try.func11 (by kernel_rfl) (by kernel_rfl)
theorem cf13 : Fw.CallT Try.prog 13 := Fw.CallT.of Try.func13 (by kernel_rfl) (by kernel_rfl)
theorem cf20 : Fw.CallT Try.prog 20 := Fw.CallT.of Try.func20 (by kernel_rfl) (by kernel_rfl)
theorem cf10 : Fw.CallT Try.prog 10 := Fw.CallT.of Try.func10 (by kernel_rfl) (by kernel_rfl)
theorem cf23 : Fw.CallT Try.prog 23 := Fw.CallT.of Try.func23 (by kernel_rfl) (by kernel_rfl)
theorem cf32 : Fw.CallT Try.prog 32 := Fw.CallT.of Try.func32 (by kernel_rfl) (by kernel_rfl)
theorem cf35 : Fw.CallT Try.prog 35 := Fw.CallT.of Try.func35 (by kernel_rfl) (by kernel_rfl)
theorem cf36 : Fw.CallT Try.prog 36 := Fw.CallT.of Try.func36 (by kernel_rfl) (by kernel_rfl)
theorem cf34 : Fw.CallT Try.prog 34 := Fw.CallT.of Try.func34 (by kernel_rfl) (by kernel_rfl)
theorem cf50 : Fw.CallT Try.prog 50 := Fw.CallT.of Try.func50 (by kernel_rfl) (by kernel_rfl)
theorem cf43 : Fw.CallT Try.prog 43 := Fw.CallT.of Try.func43 (by kernel_rfl) (by kernel_rfl)
theorem cf42 : Fw.CallT Try.prog 42 := Fw.CallT.of Try.func42 (by kernel_rfl) (by kernel_rfl)
theorem cf58 : Fw.CallT Try.prog 58 := Fw.CallT.of Try.func58 (by kernel_rfl) (by kernel_rfl)
theorem cf57 : Fw.CallT Try.prog 57 := Fw.CallT.of Try.func57 (by kernel_rfl) (by kernel_rfl)
theorem cf40 : Fw.CallT Try.prog 40 := Fw.CallT.of Try.func40 (by kernel_rfl) (by kernel_rfl)
theorem cf39 : Fw.CallT Try.prog 39 := Fw.CallT.of Try.func39 (by kernel_rfl) (by kernel_rfl)
theorem cf25 : Fw.CallT Try.prog 25 := Fw.CallT.of Try.func25 (by kernel_rfl) (by kernel_rfl)
theorem cf51 : Fw.CallT Try.prog 51 := Fw.CallT.of Try.func51 (by kernel_rfl) (by kernel_rfl)
theorem cf62 : Fw.CallT Try.prog 62 := Fw.CallT.of Try.func62 (by kernel_rfl) (by kernel_rfl)
theorem cf15 : Fw.CallT Try.prog 15 := Fw.CallT.of Try.func15 (by kernel_rfl) (by kernel_rfl)
theorem cf19 : Fw.CallT Try.prog 19 := Fw.CallT.of Try.func19 (by kernel_rfl) (by kernel_rfl)
theorem cf14 : Fw.CallT Try.prog 14 := Fw.CallT.of Try.func14 (by kernel_rfl) (by kernel_rfl)
theorem cf18 : Fw.CallT Try.prog 18 := Fw.CallT.of Try.func18 (by kernel_rfl) (by kernel_rfl)
theorem cf30 : Fw.CallT Try.prog 30 := Fw.CallT.of Try.func30 (by kernel_rfl) (by kernel_rfl)
theorem cf38 : Fw.CallT Try.prog 38 := Fw.CallT.of Try.func38 (by kernel_rfl) (by kernel_rfl)
theorem cf55 : Fw.CallT Try.prog 55 := Fw.CallT.of Try.func55 (by kernel_rfl) (by kernel_rfl)
theorem cf56 : Fw.CallT Try.prog 56 := Fw.CallT.of Try.func56 (by kernel_rfl) (by kernel_rfl)
theorem cf49 : Fw.CallT Try.prog 49 := Fw.CallT.of Try.func49 (by kernel_rfl) (by kernel_rfl)
theorem cf52 : Fw.CallT Try.prog 52 := Fw.CallT.of Try.func52 (by kernel_rfl) (by kernel_rfl)
theorem cf5 : Fw.CallT Try.prog 5 := Fw.CallT.of Try.func5 (by kernel_rfl) (by kernel_rfl)
theorem cf26 : Fw.CallT Try.prog 26 := Fw.CallT.of Try.func26 (by kernel_rfl) (by kernel_rfl)
theorem cf73 : Fw.CallT Try.prog 73 := Fw.CallT.of Try.func73 (by kernel_rfl) (by kernel_rfl)
theorem cf72 : Fw.CallT Try.prog 72 := Fw.CallT.of Try.func72 (by kernel_rfl) (by kernel_rfl)
theorem cf3 : Fw.CallT Try.prog 3 := Fw.CallT.of Try.func3 (by kernel_rfl) (by kernel_rfl)
theorem cf4 : Fw.CallT Try.prog 4 := Fw.CallT.of Try.func4 (by kernel_rfl) (by kernel_rfl)
theorem cf59 : Fw.CallT Try.prog 59 := Fw.CallT.of Try.func59 (by kernel_rfl) (by kernel_rfl)
theorem cf63 : Fw.CallT Try.prog 63 := Fw.CallT.of Try.func63 (by kernel_rfl) (by kernel_rfl)
theorem cf65 : Fw.CallT Try.prog 65 := Fw.CallT.of Try.func65 (by kernel_rfl) (by kernel_rfl)
theorem cf64 : Fw.CallT Try.prog 64 := Fw.CallT.of Try.func64 (by kernel_rfl) (by kernel_rfl)
theorem cf68 : Fw.CallT Try.prog 68 := Fw.CallT.of Try.func68 (by kernel_rfl) (by kernel_rfl)
theorem cf7 : Fw.CallT Try.prog 7 := Fw.CallT.of Try.func7 (by kernel_rfl) (by kernel_rfl)
theorem cf53 : Fw.CallT Try.prog 53 := Fw.CallT.of Try.func53 (by kernel_rfl) (by kernel_rfl)
theorem cf6 : Fw.CallT Try.prog 6 := Fw.CallT.of Try.func6 (by kernel_rfl) (by kernel_rfl)
theorem cf33 : Fw.CallT Try.prog 33 := Fw.CallT.of Try.func33 (by kernel_rfl) (by kernel_rfl)
theorem cf28 : Fw.CallT Try.prog 28 := Fw.CallT.of Try.func28 (by kernel_rfl) (by kernel_rfl)
theorem cf37 : Fw.CallT Try.prog 37 := Fw.CallT.of Try.func37 (by kernel_rfl) (by kernel_rfl)
theorem cf41 : Fw.CallT Try.prog 41 := Fw.CallT.of Try.func41 (by kernel_rfl) (by kernel_rfl)
theorem cf27 : Fw.CallT Try.prog 27 := Fw.CallT.of Try.func27 (by kernel_rfl) (by kernel_rfl)
theorem eq60 : Fw.EqT Try.prog 60 5 := ⟨by kernel_rfl, by kernel_rfl, by kernel_rfl, by kernel_rfl, by kernel_rfl⟩
theorem fl29_0 : Fw.FieldT Try.prog 29 0 0 := Fw.FieldT.of (m := 0) Try.underlying29 rfl (by kernel_rfl) rfl
theorem fl29_1 : Fw.FieldT Try.prog 29 1 1 := Fw.FieldT.of (m := 0) Try.underlying29 rfl (by kernel_rfl) rfl
theorem fl29_2 : Fw.FieldT Try.prog 29 2 2 := Fw.FieldT.of (m := 0) Try.underlying29 rfl (by kernel_rfl) rfl
theorem fl50_0 : Fw.FieldT Try.prog 50 0 0 := Fw.FieldT.of (m := 0) Try.underlying50 rfl (by kernel_rfl) rfl
theorem fl50_1 : Fw.FieldT Try.prog 50 1 1 := Fw.FieldT.of (m := 0) Try.underlying50 rfl (by kernel_rfl) rfl
theorem fl50_2 : Fw.FieldT Try.prog 50 2 2 := Fw.FieldT.of (m := 0) Try.underlying50 rfl (by kernel_rfl) rfl
theorem fl50_3 : Fw.FieldT Try.prog 50 3 3 := Fw.FieldT.of (m := 0) Try.underlying50 rfl (by kernel_rfl) rfl
theorem fl50_4 : Fw.FieldT Try.prog 50 4 4 := Fw.FieldT.of (m := 0) Try.underlying50 rfl (by kernel_rfl) rfl
theorem fl60_0 : Fw.FieldT Try.prog 60 0 0 := Fw.FieldT.of (m := 0) Try.underlying60 rfl (by kernel_rfl) rfl
theorem fl60_1 : Fw.FieldT Try.prog 60 1 1 := Fw.FieldT.of (m := 0) Try.underlying60 rfl (by kernel_rfl) rfl
theorem fl60_2 : Fw.FieldT Try.prog 60 2 2 := Fw.FieldT.of (m := 0) Try.underlying60 rfl (by kernel_rfl) rfl
theorem fl60_3 : Fw.FieldT Try.prog 60 3 3 := Fw.FieldT.of (m := 0) Try.underlying60 rfl (by kernel_rfl) rfl
theorem fl60_4 : Fw.FieldT Try.prog 60 4 4 := Fw.FieldT.of (m := 0) Try.underlying60 rfl (by kernel_rfl) rfl
theorem fl35_0 : Fw.FieldT Try.prog 35 0 0 := Fw.FieldT.of (m := 0) Try.underlying35 rfl (by kernel_rfl) rfl
theorem fl35_1 : Fw.FieldT Try.prog 35 1 1 := Fw.FieldT.of (m := 0) Try.underlying35 rfl (by kernel_rfl) rfl
theorem fl35_2 : Fw.FieldT Try.prog 35 2 2 := Fw.FieldT.of (m := 0) Try.underlying35 rfl (by kernel_rfl) rfl
theorem fl69_0 : Fw.FieldT Try.prog 69 0 0 := Fw.FieldT.of (m := 0) Try.underlying69 rfl (by kernel_rfl) rfl
theorem fl69_3 : Fw.FieldT Try.prog 69 3 3 := Fw.FieldT.of (m := 0) Try.underlying69 rfl (by kernel_rfl) rfl
theorem fl69_4 : Fw.FieldT Try.prog 69 4 4 := Fw.FieldT.of (m := 0) Try.underlying69 rfl (by kernel_rfl) rfl
theorem fl69_5 : Fw.FieldT Try.prog 69 5 5 := Fw.FieldT.of (m := 0) Try.underlying69 rfl (by kernel_rfl) rfl
theorem fl69_6 : Fw.FieldT Try.prog 69 6 6 := Fw.FieldT.of (m := 0) Try.underlying69 rfl (by kernel_rfl) rfl
theorem fl69_7 : Fw.FieldT Try.prog 69 7 7 := Fw.FieldT.of (m := 0) Try.underlying69 rfl (by kernel_rfl) rfl
theorem fl69_8 : Fw.FieldT Try.prog 69 8 8 := Fw.FieldT.of (m := 0) Try.underlying69 rfl (by kernel_rfl) rfl
theorem fl69_9 : Fw.FieldT Try.prog 69 9 9 := Fw.FieldT.of (m := 0) Try.underlying69 rfl (by kernel_rfl) rfl
theorem fl109_0 : Fw.FieldT Try.prog 109 0 0 := Fw.FieldT.of (m := 0) Try.underlying109 rfl (by kernel_rfl) rfl
theorem fl109_1 : Fw.FieldT Try.prog 109 1 1 := Fw.FieldT.of (m := 4) Try.underlying109 rfl (by kernel_rfl) rfl
theorem fl109_2 : Fw.FieldT Try.prog 109 2 6 := Fw.FieldT.of (m := 0) Try.underlying109 rfl (by kernel_rfl) rfl
theorem fl107_0 : Fw.FieldT Try.prog 107 0 0 := Fw.FieldT.of (m := 0) Try.underlying107 rfl (by kernel_rfl) rfl
theorem fl107_1 : Fw.FieldT Try.prog 107 1 1 := Fw.FieldT.of (m := 0) Try.underlying107 rfl (by kernel_rfl) rfl
theorem fl107_2 : Fw.FieldT Try.prog 107 2 2 := Fw.FieldT.of (m := 0) Try.underlying107 rfl (by kernel_rfl) rfl
theorem fl42_0 : Fw.FieldT Try.prog 42 0 0 := Fw.FieldT.of (m := 0) Try.underlying42 rfl (by kernel_rfl) rfl
theorem fl42_1 : Fw.FieldT Try.prog 42 1 1 := Fw.FieldT.of (m := 0) Try.underlying42 rfl (by kernel_rfl) rfl
theorem fl89_0 : Fw.FieldT Try.prog 89 0 0 := Fw.FieldT.of (m := 0) Try.underlying89 rfl (by kernel_rfl) rfl
theorem fl89_1 : Fw.FieldT Try.prog 89 1 1 := Fw.FieldT.of (m := 0) Try.underlying89 rfl (by kernel_rfl) rfl
theorem fl89_10 : Fw.FieldT Try.prog 89 10 10 := Fw.FieldT.of (m := 4) Try.underlying89 rfl (by kernel_rfl) rfl
theorem fl89_11 : Fw.FieldT Try.prog 89 11 15 := Fw.FieldT.of (m := 0) Try.underlying89 rfl (by kernel_rfl) rfl
theorem fl89_2 : Fw.FieldT Try.prog 89 2 2 := Fw.FieldT.of (m := 0) Try.underlying89 rfl (by kernel_rfl) rfl
theorem fl89_3 : Fw.FieldT Try.prog 89 3 3 := Fw.FieldT.of (m := 0) Try.underlying89 rfl (by kernel_rfl) rfl
theorem fl89_4 : Fw.FieldT Try.prog 89 4 4 := Fw.FieldT.of (m := 0) Try.underlying89 rfl (by kernel_rfl) rfl
theorem fl89_5 : Fw.FieldT Try.prog 89 5 5 := Fw.FieldT.of (m := 0) Try.underlying89 rfl (by kernel_rfl) rfl
theorem fl89_6 : Fw.FieldT Try.prog 89 6 6 := Fw.FieldT.of (m := 0) Try.underlying89 rfl (by kernel_rfl) rfl
theorem fl89_7 : Fw.FieldT Try.prog 89 7 7 := Fw.FieldT.of (m := 0) Try.underlying89 rfl (by kernel_rfl) rfl
theorem fl89_8 : Fw.FieldT Try.prog 89 8 8 := Fw.FieldT.of (m := 0) Try.underlying89 rfl (by kernel_rfl) rfl
theorem fl89_9 : Fw.FieldT Try.prog 89 9 9 := Fw.FieldT.of (m := 0) Try.underlying89 rfl (by kernel_rfl) rfl
theorem fl80_0 : Fw.FieldT Try.prog 80 0 0 := Fw.FieldT.of (m := 0) Try.underlying80 rfl (by kernel_rfl) rfl
theorem fl83_0 : Fw.FieldT Try.prog 83 0 0 := Fw.FieldT.of (m := 9) Try.underlying83 rfl (by kernel_rfl) rfl
theorem fl83_1 : Fw.FieldT Try.prog 83 1 10 := Fw.FieldT.of (m := 4) Try.underlying83 rfl (by kernel_rfl) rfl
theorem fl117_0 : Fw.FieldT Try.prog 117 0 0 := Fw.FieldT.of (m := 0) Try.underlying117 rfl (by kernel_rfl) rfl
theorem fl117_1 : Fw.FieldT Try.prog 117 1 1 := Fw.FieldT.of (m := 0) Try.underlying117 rfl (by kernel_rfl) rfl
theorem fl96_0 : Fw.FieldT Try.prog 96 0 0 := Fw.FieldT.of (m := 0) Try.underlying96 rfl (by kernel_rfl) rfl
theorem sc85 : Fw.ScalT Try.prog 85 := Fw.ScalT.of Try.underlying85 rfl
theorem sc24 : Fw.ScalT Try.prog 24 := Fw.ScalT.of Try.underlying24 rfl
theorem sc105 : Fw.ScalT Try.prog 105 := Fw.ScalT.of Try.underlying105 rfl
theorem sc30 : Fw.ScalT Try.prog 30 := Fw.ScalT.of Try.underlying30 rfl
theorem sc123 : Fw.ScalT Try.prog 123 := Fw.ScalT.of Try.underlying123 rfl
theorem sc47 : Fw.ScalT Try.prog 47 := Fw.ScalT.of Try.underlying47 rfl
theorem sc53 : Fw.ScalT Try.prog 53 := Fw.ScalT.of Try.underlying53 rfl
theorem sc78 : Fw.ScalT Try.prog 78 := Fw.ScalT.of Try.underlying78 rfl
theorem sc25 : Fw.ScalT Try.prog 25 := Fw.ScalT.of Try.underlying25 rfl
theorem sc4 : Fw.ScalT Try.prog 4 := Fw.ScalT.of Try.underlying4 rfl
theorem sc2 : Fw.ScalT Try.prog 2 := Fw.ScalT.of Try.underlying2 rfl
theorem sc3 : Fw.ScalT Try.prog 3 := Fw.ScalT.of Try.underlying3 rfl
theorem sc134 : Fw.ScalT Try.prog 134 := Fw.ScalT.of Try.underlying134 rfl
theorem sc5 : Fw.ScalT Try.prog 5 := Fw.ScalT.of Try.underlying5 rfl
theorem sl105 : SlT Try.prog 105 47 1 24 := SlT.of (by kernel_rfl) (by kernel_rfl) (by omega)
theorem sl40 : SlT Try.prog 40 53 1 24 := SlT.of (by kernel_rfl) (by kernel_rfl) (by omega)
theorem sl30 : SlT Try.prog 30 29 3 24 := SlT.of (by kernel_rfl) (by kernel_rfl) (by omega)
theorem sl36 : SlT Try.prog 36 35 3 24 := SlT.of (by kernel_rfl) (by kernel_rfl) (by omega)
theorem sl123 : SlT Try.prog 123 2 1 8 := SlT.of (by kernel_rfl) (by kernel_rfl) (by omega)
theorem sl47 : SlT Try.prog 47 3 1 8 := SlT.of (by kernel_rfl) (by kernel_rfl) (by omega)
theorem sl22 : SlT Try.prog 22 42 2 2 := SlT.of (by kernel_rfl) (by kernel_rfl) (by omega)
theorem sl53 : SlT Try.prog 53 5 1 1 := SlT.of (by kernel_rfl) (by kernel_rfl) (by omega)
theorem sl78 : SlT Try.prog 78 83 15 120 := SlT.of (by kernel_rfl) (by kernel_rfl) (by omega)
theorem sl134 : SlT Try.prog 134 2 1 8 := SlT.of (by kernel_rfl) (by kernel_rfl) (by omega)
theorem sz85 : Fw.SizeT Try.prog 85 1 := Fw.SizeT.of (by kernel_rfl)
theorem sz24 : Fw.SizeT Try.prog 24 1 := Fw.SizeT.of (by kernel_rfl)
theorem sz105 : Fw.SizeT Try.prog 105 1 := Fw.SizeT.of (by kernel_rfl)
theorem sz30 : Fw.SizeT Try.prog 30 1 := Fw.SizeT.of (by kernel_rfl)
theorem sz123 : Fw.SizeT Try.prog 123 1 := Fw.SizeT.of (by kernel_rfl)
theorem sz47 : Fw.SizeT Try.prog 47 1 := Fw.SizeT.of (by kernel_rfl)
theorem sz53 : Fw.SizeT Try.prog 53 1 := Fw.SizeT.of (by kernel_rfl)
theorem sz78 : Fw.SizeT Try.prog 78 1 := Fw.SizeT.of (by kernel_rfl)
theorem sz29 : Fw.SizeT Try.prog 29 3 := Fw.SizeT.of (by kernel_rfl)
theorem sz25 : Fw.SizeT Try.prog 25 1 := Fw.SizeT.of (by kernel_rfl)
theorem sz50 : Fw.SizeT Try.prog 50 5 := Fw.SizeT.of (by kernel_rfl)
theorem sz60 : Fw.SizeT Try.prog 60 5 := Fw.SizeT.of (by kernel_rfl)
theorem sz35 : Fw.SizeT Try.prog 35 3 := Fw.SizeT.of (by kernel_rfl)
theorem sz69 : Fw.SizeT Try.prog 69 10 := Fw.SizeT.of (by kernel_rfl)
theorem sz4 : Fw.SizeT Try.prog 4 1 := Fw.SizeT.of (by kernel_rfl)
theorem sz2 : Fw.SizeT Try.prog 2 1 := Fw.SizeT.of (by kernel_rfl)
theorem sz3 : Fw.SizeT Try.prog 3 1 := Fw.SizeT.of (by kernel_rfl)
theorem sz109 : Fw.SizeT Try.prog 109 7 := Fw.SizeT.of (by kernel_rfl)
theorem sz107 : Fw.SizeT Try.prog 107 3 := Fw.SizeT.of (by kernel_rfl)
theorem sz42 : Fw.SizeT Try.prog 42 2 := Fw.SizeT.of (by kernel_rfl)
theorem sz134 : Fw.SizeT Try.prog 134 1 := Fw.SizeT.of (by kernel_rfl)
theorem sz5 : Fw.SizeT Try.prog 5 1 := Fw.SizeT.of (by kernel_rfl)
theorem sz89 : Fw.SizeT Try.prog 89 16 := Fw.SizeT.of (by kernel_rfl)
theorem sz80 : Fw.SizeT Try.prog 80 1 := Fw.SizeT.of (by kernel_rfl)
theorem sz83 : Fw.SizeT Try.prog 83 15 := Fw.SizeT.of (by kernel_rfl)
theorem sz117 : Fw.SizeT Try.prog 117 2 := Fw.SizeT.of (by kernel_rfl)
theorem sz96 : Fw.SizeT Try.prog 96 1 := Fw.SizeT.of (by kernel_rfl)
theorem ze24 : Fw.ZeroT Try.prog 24 (.pointer none) := Fw.ZeroT.of (by kernel_rfl)
theorem ze105 : Fw.ZeroT Try.prog 105 (.slice none 0 0) := Fw.ZeroT.of (by kernel_rfl)
theorem ze123 : Fw.ZeroT Try.prog 123 (.slice none 0 0) := Fw.ZeroT.of (by kernel_rfl)
theorem ze47 : Fw.ZeroT Try.prog 47 (.slice none 0 0) := Fw.ZeroT.of (by kernel_rfl)
theorem ze29 : Fw.ZeroT Try.prog 29 (.agg #[.int .i64 0, .int .i64 0, .int .i64 0]) := Fw.ZeroT.of (by kernel_rfl)
theorem ze50 : Fw.ZeroT Try.prog 50 (.agg #[.int .i64 0, .int .i64 0, .int .i64 0, .int .i64 0, .int .i64 0]) := Fw.ZeroT.of (by kernel_rfl)
theorem ze60 : Fw.ZeroT Try.prog 60 (.agg #[.int .i64 0, .int .i64 0, .int .i64 0, .int .i64 0, .int .i64 0]) := Fw.ZeroT.of (by kernel_rfl)
theorem ze35 : Fw.ZeroT Try.prog 35 (.agg #[.int .i64 0, .int .i64 0, .int .i64 0]) := Fw.ZeroT.of (by kernel_rfl)
theorem ze69 : Fw.ZeroT Try.prog 69 (.agg #[.int .i64 0, .int .i64 0, .int .i64 0, .int .i64 0, .int .i64 0, .int .i64 0, .int .i64 0, .int .i64 0, .int .i64 0, .int .i64 0]) := Fw.ZeroT.of (by kernel_rfl)
theorem ze4 : Fw.ZeroT Try.prog 4 (.bool false) := Fw.ZeroT.of (by kernel_rfl)
theorem ze2 : Fw.ZeroT Try.prog 2 (.int .i64 0) := Fw.ZeroT.of (by kernel_rfl)
theorem ze3 : Fw.ZeroT Try.prog 3 (.int .i64 0) := Fw.ZeroT.of (by kernel_rfl)
theorem ze109 : Fw.ZeroT Try.prog 109 (.agg #[.int .i64 0, .int .i64 0, .int .i64 0, .int .i64 0, .int .i64 0, .int .i64 0, .bool false]) := Fw.ZeroT.of (by kernel_rfl)
theorem ze107 : Fw.ZeroT Try.prog 107 (.agg #[.slice none 0 0, .slice none 0 0, .slice none 0 0]) := Fw.ZeroT.of (by kernel_rfl)
theorem ze42 : Fw.ZeroT Try.prog 42 (.agg #[.int .u8 0, .int .u8 0]) := Fw.ZeroT.of (by kernel_rfl)
theorem ze134 : Fw.ZeroT Try.prog 134 (.slice none 0 0) := Fw.ZeroT.of (by kernel_rfl)
theorem ze89 : Fw.ZeroT Try.prog 89 (.agg #[.pointer none, .pointer none, .int .i64 0, .int .i64 0, .int .i64 0, .int .i64 0, .int .i64 0, .slice none 0 0, .int .i64 0, .int .i64 0, .int .i64 0, .int .i64 0, .int .i64 0, .int .i64 0, .int .i64 0, .int .i64 0]) := Fw.ZeroT.of (by kernel_rfl)
theorem ze80 : Fw.ZeroT Try.prog 80 (.agg #[.slice none 0 0]) := Fw.ZeroT.of (by kernel_rfl)
theorem ze117 : Fw.ZeroT Try.prog 117 (.agg #[.slice none 0 0, .int .i64 0]) := Fw.ZeroT.of (by kernel_rfl)
theorem ze96 : Fw.ZeroT Try.prog 96 (.agg #[.slice none 0 0]) := Fw.ZeroT.of (by kernel_rfl)
theorem zi47 : (Try.prog.info? 47).bind (·.zero) = some (.slice none 0 0) := by kernel_rfl
theorem zi53 : (Try.prog.info? 53).bind (·.zero) = some (.slice none 0 0) := by kernel_rfl
theorem zi29 : (Try.prog.info? 29).bind (·.zero) = some (.agg #[.int .i64 0, .int .i64 0, .int .i64 0]) := by kernel_rfl
theorem zi35 : (Try.prog.info? 35).bind (·.zero) = some (.agg #[.int .i64 0, .int .i64 0, .int .i64 0]) := by kernel_rfl
theorem zi2 : (Try.prog.info? 2).bind (·.zero) = some (.int .i64 0) := by kernel_rfl
theorem zi3 : (Try.prog.info? 3).bind (·.zero) = some (.int .i64 0) := by kernel_rfl
theorem zi42 : (Try.prog.info? 42).bind (·.zero) = some (.agg #[.int .u8 0, .int .u8 0]) := by kernel_rfl
theorem zi5 : (Try.prog.info? 5).bind (·.zero) = some (.int .u8 0) := by kernel_rfl
theorem zi83 : (Try.prog.info? 83).bind (·.zero) = some (.agg #[.int .i64 0, .int .i64 0, .int .i64 0, .int .i64 0, .int .i64 0, .int .i64 0, .int .i64 0, .int .i64 0, .int .i64 0, .int .i64 0, .int .i64 0, .int .i64 0, .int .i64 0, .int .i64 0, .int .i64 0]) := by kernel_rfl
end Go.Proofs.Ytodhpooddmeghaa
