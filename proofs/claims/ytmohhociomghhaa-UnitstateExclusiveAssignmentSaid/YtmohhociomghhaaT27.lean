/- Closed facts on types and functions. -/
import Derived.Test.YtmohhociomghhaaProg
import Derived.Test.YtmohhociomghhaaFg
import Derived.Test.YtmohhociomghhaaFh
namespace Go.Proofs.Ytmohhociomghhaa
set_option linter.unusedSimpArgs false
set_option linter.unusedVariables false
set_option linter.unusedVariables false
open Go.RowKit
theorem ag36 : Fw.AggT Try.prog 36 5 := Fw.AggT.of Try.underlying36 rfl (by kernel_rfl)
theorem ag45 : Fw.AggT Try.prog 45 5 := Fw.AggT.of Try.underlying45 rfl (by kernel_rfl)
theorem ag66 : Fw.AggT Try.prog 66 3 := Fw.AggT.of Try.underlying66 rfl (by kernel_rfl)
theorem ag32 : Fw.AggT Try.prog 32 10 := Fw.AggT.of Try.underlying32 rfl (by kernel_rfl)
theorem ag47 : Fw.AggT Try.prog 47 13 := Fw.AggT.of Try.underlying47 rfl (by kernel_rfl)
theorem ag40 : Fw.AggT Try.prog 40 15 := Fw.AggT.of Try.underlying40 rfl (by kernel_rfl)
theorem bu36_  : Try.prog.built 36 [] = some #[.int .i64 0, .int .i64 0, .int .i64 0, .int .i64 0, .int .i64 0] := by kernel_rfl
theorem bu36_0_1_2_3_4 (a0 : Int) (a1 : Int) (a2 : Int) (a3 : Int) (a4 : Int) : Try.prog.built 36 [(0, .int .i64 a0), (1, .int .i64 a1), (2, .int .i64 a2), (3, .int .i64 a3), (4, .int .i64 a4)] = some #[.int .i64 a0, .int .i64 a1, .int .i64 a2, .int .i64 a3, .int .i64 a4] := by kernel_rfl
theorem bu36_1_2 (a1 : Int) (a2 : Int) : Try.prog.built 36 [(1, .int .i64 a1), (2, .int .i64 a2)] = some #[.int .i64 0, .int .i64 a1, .int .i64 a2, .int .i64 0, .int .i64 0] := by kernel_rfl
theorem bu36_1_2_3_4 (a1 : Int) (a2 : Int) (a3 : Int) (a4 : Int) : Try.prog.built 36 [(1, .int .i64 a1), (2, .int .i64 a2), (3, .int .i64 a3), (4, .int .i64 a4)] = some #[.int .i64 0, .int .i64 a1, .int .i64 a2, .int .i64 a3, .int .i64 a4] := by kernel_rfl
theorem bu36_1_2_4 (a1 : Int) (a2 : Int) (a4 : Int) : Try.prog.built 36 [(1, .int .i64 a1), (2, .int .i64 a2), (4, .int .i64 a4)] = some #[.int .i64 0, .int .i64 a1, .int .i64 a2, .int .i64 0, .int .i64 a4] := by kernel_rfl
theorem bu45_0_1_2_3 (a0 : Int) (a1 : Int) (a2 : Int) (a3 : Int) : Try.prog.built 45 [(0, .int .i64 a0), (1, .int .i64 a1), (2, .int .i64 a2), (3, .int .i64 a3)] = some #[.int .i64 a0, .int .i64 a1, .int .i64 a2, .int .i64 a3, .int .i64 0] := by kernel_rfl
theorem bu45_0_1_2_3_4 (a0 : Int) (a1 : Int) (a2 : Int) (a3 : Int) (a4 : Int) : Try.prog.built 45 [(0, .int .i64 a0), (1, .int .i64 a1), (2, .int .i64 a2), (3, .int .i64 a3), (4, .int .i64 a4)] = some #[.int .i64 a0, .int .i64 a1, .int .i64 a2, .int .i64 a3, .int .i64 a4] := by kernel_rfl
theorem bu66_0_1_2 (a0 : Int) (a1 : Int) (a2 : Int) : Try.prog.built 66 [(0, .int .i64 a0), (1, .int .i64 a1), (2, .int .i64 a2)] = some #[.int .i64 a0, .int .i64 a1, .int .i64 a2] := by kernel_rfl
theorem bu32_  : Try.prog.built 32 [] = some #[.int .i64 0, .int .i64 0, .int .i64 0, .int .i64 0, .int .i64 0, .int .i64 0, .int .i64 0, .int .i64 0, .int .i64 0, .int .i64 0] := by kernel_rfl
theorem bu32_0_1_2_3_4 (a0 : Int) (a1 : Int) (a2 : Int) (a3 : Int) (a4 : Int) : Try.prog.built 32 [(0, .int .i64 a0), (1, .int .i64 a1), (2, .int .i64 a2), (3, .int .i64 a3), (4, .int .i64 a4)] = some #[.int .i64 a0, .int .i64 a1, .int .i64 a2, .int .i64 a3, .int .i64 a4, .int .i64 0, .int .i64 0, .int .i64 0, .int .i64 0, .int .i64 0] := by kernel_rfl
theorem bu32_0_1_2_4_3 (a0 : Int) (a1 : Int) (a2 : Int) (a3 : Int) (a4 : Int) : Try.prog.built 32 [(0, .int .i64 a0), (1, .int .i64 a1), (2, .int .i64 a2), (4, .int .i64 a4), (3, .int .i64 a3)] = some #[.int .i64 a0, .int .i64 a1, .int .i64 a2, .int .i64 a3, .int .i64 a4, .int .i64 0, .int .i64 0, .int .i64 0, .int .i64 0, .int .i64 0] := by kernel_rfl
theorem bu40_0 (a0_0 : Int) (a0_1 : Int) (a0_2 : Int) (a0_3 : Int) (a0_4 : Int) (a0_5 : Int) (a0_6 : Int) (a0_7 : Int) (a0_8 : Int) (a0_9 : Int) : Try.prog.built 40 [(0, .agg #[.int .i64 a0_0, .int .i64 a0_1, .int .i64 a0_2, .int .i64 a0_3, .int .i64 a0_4, .int .i64 a0_5, .int .i64 a0_6, .int .i64 a0_7, .int .i64 a0_8, .int .i64 a0_9])] = some #[.int .i64 a0_0, .int .i64 a0_1, .int .i64 a0_2, .int .i64 a0_3, .int .i64 a0_4, .int .i64 a0_5, .int .i64 a0_6, .int .i64 a0_7, .int .i64 a0_8, .int .i64 a0_9, .int .i64 0, .int .i64 0, .int .i64 0, .int .i64 0, .int .i64 0] := by kernel_rfl
theorem bu70_0 (a0 : Option Addr) (a0n a0c : Nat) : Try.prog.built 70 [(0, .slice a0 a0n a0c)] = some #[.slice a0 a0n a0c] := by kernel_rfl
theorem cf15 : Fw.CallT Try.prog 15 := Fw.CallT.of Try.func15 (by kernel_rfl) (by kernel_rfl)
theorem cf30 : Fw.CallT Try.prog 30 := Fw.CallT.of Try.func30 (by kernel_rfl) (by kernel_rfl)
theorem cf22 : Fw.CallT Try.prog 22 := Fw.CallT.of Try.func22 (by kernel_rfl) (by kernel_rfl)
theorem cf27 : Fw.CallT Try.prog 27 := Fw.CallT.of Try.func27 (by kernel_rfl) (by kernel_rfl)
theorem cf21 : Fw.CallT Try.prog 21 := Fw.CallT.of Try.func21 (by kernel_rfl) (by kernel_rfl)
theorem cf19 : Fw.CallT Try.prog 19 := Fw.CallT.of Try.func19 (by kernel_rfl) (by kernel_rfl)
theorem cf39 : Fw.CallT Try.prog 39 := Fw.CallT.of Try.func39 (by kernel_rfl) (by kernel_rfl)
theorem cf37 : Fw.CallT Try.prog 37 := Fw.CallT.of Try.func37 (by kernel_rfl) (by kernel_rfl)
theorem cf13 : Fw.CallT Try.prog 13 := Fw.CallT.of Try.func13 (by kernel_rfl) (by kernel_rfl)
theorem cf18 : Fw.CallT Try.prog 18 := Fw.CallT.of Try.func18 (by kernel_rfl) (by kernel_rfl)
theorem cf35 : Fw.CallT Try.prog 35 := Fw.CallT.of Try.func35 (by kernel_rfl) (by kernel_rfl)
theorem cf12 : Fw.CallT Try.prog 12 := Fw.CallT.of Try.func12 (by kernel_rfl) (by kernel_rfl)
theorem cf24 : Fw.CallT Try.prog 24 := Fw.CallT.of Try.func24 (by kernel_rfl) (by kernel_rfl)
theorem cf45 : Fw.CallT Try.prog 45 := Fw.CallT.of Try.func45 (by kernel_rfl) (by kernel_rfl)
theorem cf44 : Fw.CallT Try.prog 44 := Fw.CallT.of Try.func44 (by kernel_rfl) (by kernel_rfl)
theorem cf43 : Fw.CallT Try.prog 43 := Fw.CallT.of Try.func43 (by kernel_rfl) (by kernel_rfl)
theorem cf41 : Fw.CallT Try.prog 41 := Fw.CallT.of Try.func41 (by kernel_rfl) (by kernel_rfl)
theorem cf46 : Fw.CallT Try.prog 46 := Fw.CallT.of Try.func46 (by kernel_rfl) (by kernel_rfl)
theorem cf58 : Fw.CallT Try.prog 58 := Fw.CallT.of Try.func58 (by kernel_rfl) (by kernel_rfl)
theorem cf55 : Fw.CallT Try.prog 55 := Fw.CallT.of Try.func55 (by kernel_rfl) (by kernel_rfl)
theorem cf4 : Fw.CallT Try.prog 4 := Fw.CallT.of Try.func4 (by kernel_rfl) (by kernel_rfl)
theorem cf8 : Fw.CallT Try.prog 8 := Fw.CallT.of Try.func8 (by kernel_rfl) (by kernel_rfl)
theorem cf3 : Fw.CallT Try.prog 3 := Fw.CallT.of Try.func3 (by kernel_rfl) (by kernel_rfl)
theorem cf5 : Fw.CallT Try.prog 5 := Fw.CallT.of Try.func5 (by kernel_rfl) (by kernel_rfl)
theorem cf6 : Fw.CallT Try.prog 6 := Fw.CallT.of Try.func6 (by kernel_rfl) (by kernel_rfl)
theorem cf7 : Fw.CallT Try.prog 7 := Fw.CallT.of Try.func7 (by kernel_rfl) (by kernel_rfl)
theorem cf16 : Fw.CallT Try.prog 16 := Fw.CallT.of Try.func16 (by kernel_rfl) (by kernel_rfl)
theorem cf17 : Fw.CallT Try.prog 17 := Fw.CallT.of Try.func17 (by kernel_rfl) (by kernel_rfl)
theorem cf14 : Fw.CallT Try.prog 14 := Fw.CallT.of Try.func14 (by kernel_rfl) (by kernel_rfl)
theorem cf9 : Fw.CallT Try.prog 9 := Fw.CallT.of Try.func9 (by kernel_rfl) (by kernel_rfl)
theorem cf56 : Fw.CallT Try.prog 56 := Fw.CallT.of Try.func56 (by kernel_rfl) (by kernel_rfl)
theorem cf59 : Fw.CallT Try.prog 59 := Fw.CallT.of Try.func59 (by kernel_rfl) (by kernel_rfl)
theorem cf57 : Fw.CallT Try.prog 57 := Fw.CallT.of Try.func57 (by kernel_rfl) (by kernel_rfl)
theorem cf48 : Fw.CallT Try.prog 48 := Fw.CallT.of Try.func48 (by kernel_rfl) (by kernel_rfl)
theorem cf60 : Fw.CallT Try.prog 60 := Fw.CallT.of Try.func60 (by kernel_rfl) (by kernel_rfl)
theorem cf20 : Fw.CallT Try.prog 20 := Fw.CallT.of Try.func20 (by kernel_rfl) (by kernel_rfl)
theorem cf26 : Fw.CallT Try.prog 26 := Fw.CallT.of Try.func26 (by kernel_rfl) (by kernel_rfl)
theorem cf33 : Fw.CallT Try.prog 33 := Fw.CallT.of Try.func33 (by kernel_rfl) (by kernel_rfl)
theorem cf28 : Fw.CallT Try.prog 28 := Fw.CallT.of Try.func28 (by kernel_rfl) (by kernel_rfl)
theorem cf36 : Fw.CallT Try.prog 36 := Fw.CallT.of Try.func36 (by kernel_rfl) (by kernel_rfl)
theorem cf11 : Fw.CallT Try.prog 11 := Fw.CallT.of Try.func11 (by kernel_rfl) (by kernel_rfl)
theorem cf31 : Fw.CallT Try.prog 31 := Fw.CallT.of Try.func31 (by kernel_rfl) (by kernel_rfl)
theorem cf29 : Fw.CallT Try.prog 29 := Fw.CallT.of Try.func29 (by kernel_rfl) (by kernel_rfl)
theorem cf38 : Fw.CallT Try.prog 38 := Fw.CallT.of Try.func38 (by kernel_rfl) (by kernel_rfl)
theorem cf25 : Fw.CallT Try.prog 25 := Fw.CallT.of Try.func25 (by kernel_rfl) (by kernel_rfl)
theorem cf34 : Fw.CallT Try.prog 34 := Fw.CallT.of Try.func34 (by kernel_rfl) (by kernel_rfl)
theorem cf40 : Fw.CallT Try.prog 40 := Fw.CallT.of Try.func40 (by kernel_rfl) (by kernel_rfl)
theorem cf32 : Fw.CallT Try.prog 32 := Fw.CallT.of Try.func32 (by kernel_rfl) (by kernel_rfl)
theorem cf53 : Fw.CallT Try.prog 53 := Fw.CallT.of Try.func53 (by kernel_rfl) (by kernel_rfl)
theorem cf50 : Fw.CallT Try.prog 50 := Fw.CallT.of Try.func50 (by kernel_rfl) (by kernel_rfl)
theorem cf52 : Fw.CallT Try.prog 52 := Fw.CallT.of Try.func52 (by kernel_rfl) (by kernel_rfl)
theorem cf51 : Fw.CallT Try.prog 51 := Fw.CallT.of Try.func51 (by kernel_rfl) (by kernel_rfl)
theorem cf49 : Fw.CallT Try.prog 49 := Fw.CallT.of Try.func49 (by kernel_rfl) (by kernel_rfl)
theorem cf54 : Fw.CallT Try.prog 54 := Fw.CallT.of Try.func54 (by kernel_rfl) (by kernel_rfl)
theorem cf10 : Fw.CallT Try.prog 10 := Fw.CallT.of Try.func10 (by kernel_rfl) (by kernel_rfl)
theorem cf47 : Fw.CallT Try.prog 47 := Fw.CallT.of Try.func47 (by kernel_rfl) (by kernel_rfl)
theorem cf23 : Fw.CallT Try.prog 23 := Fw.CallT.of Try.func23 (by kernel_rfl) (by kernel_rfl)
theorem cf42 : Fw.CallT Try.prog 42 := Fw.CallT.of Try.func42 (by kernel_rfl) (by kernel_rfl)
theorem eq36 : Fw.EqT Try.prog 36 5 := ⟨by kernel_rfl, by kernel_rfl, by kernel_rfl, by kernel_rfl, by kernel_rfl⟩
theorem eq32 : Fw.EqT Try.prog 32 10 := ⟨by kernel_rfl, by kernel_rfl, by kernel_rfl, by kernel_rfl, by kernel_rfl⟩
theorem fl36_0 : Fw.FieldT Try.prog 36 0 0 := Fw.FieldT.of (m := 0) Try.underlying36 rfl (by kernel_rfl) rfl
theorem fl36_1 : Fw.FieldT Try.prog 36 1 1 := Fw.FieldT.of (m := 0) Try.underlying36 rfl (by kernel_rfl) rfl
theorem fl36_2 : Fw.FieldT Try.prog 36 2 2 := Fw.FieldT.of (m := 0) Try.underlying36 rfl (by kernel_rfl) rfl
theorem fl36_3 : Fw.FieldT Try.prog 36 3 3 := Fw.FieldT.of (m := 0) Try.underlying36 rfl (by kernel_rfl) rfl
theorem fl36_4 : Fw.FieldT Try.prog 36 4 4 := Fw.FieldT.of (m := 0) Try.underlying36 rfl (by kernel_rfl) rfl
theorem fl45_0 : Fw.FieldT Try.prog 45 0 0 := Fw.FieldT.of (m := 0) Try.underlying45 rfl (by kernel_rfl) rfl
theorem fl45_1 : Fw.FieldT Try.prog 45 1 1 := Fw.FieldT.of (m := 0) Try.underlying45 rfl (by kernel_rfl) rfl
theorem fl45_2 : Fw.FieldT Try.prog 45 2 2 := Fw.FieldT.of (m := 0) Try.underlying45 rfl (by kernel_rfl) rfl
theorem fl45_3 : Fw.FieldT Try.prog 45 3 3 := Fw.FieldT.of (m := 0) Try.underlying45 rfl (by kernel_rfl) rfl
theorem fl45_4 : Fw.FieldT Try.prog 45 4 4 := Fw.FieldT.of (m := 0) Try.underlying45 rfl (by kernel_rfl) rfl
theorem fl66_0 : Fw.FieldT Try.prog 66 0 0 := Fw.FieldT.of (m := 0) Try.underlying66 rfl (by kernel_rfl) rfl
theorem fl66_1 : Fw.FieldT Try.prog 66 1 1 := Fw.FieldT.of (m := 0) Try.underlying66 rfl (by kernel_rfl) rfl
theorem fl66_2 : Fw.FieldT Try.prog 66 2 2 := Fw.FieldT.of (m := 0) Try.underlying66 rfl (by kernel_rfl) rfl
theorem fl32_0 : Fw.FieldT Try.prog 32 0 0 := Fw.FieldT.of (m := 0) Try.underlying32 rfl (by kernel_rfl) rfl
theorem fl32_1 : Fw.FieldT Try.prog 32 1 1 := Fw.FieldT.of (m := 0) Try.underlying32 rfl (by kernel_rfl) rfl
theorem fl32_2 : Fw.FieldT Try.prog 32 2 2 := Fw.FieldT.of (m := 0) Try.underlying32 rfl (by kernel_rfl) rfl
theorem fl32_3 : Fw.FieldT Try.prog 32 3 3 := Fw.FieldT.of (m := 0) Try.underlying32 rfl (by kernel_rfl) rfl
theorem fl32_4 : Fw.FieldT Try.prog 32 4 4 := Fw.FieldT.of (m := 0) Try.underlying32 rfl (by kernel_rfl) rfl
theorem fl32_5 : Fw.FieldT Try.prog 32 5 5 := Fw.FieldT.of (m := 0) Try.underlying32 rfl (by kernel_rfl) rfl
theorem fl32_6 : Fw.FieldT Try.prog 32 6 6 := Fw.FieldT.of (m := 0) Try.underlying32 rfl (by kernel_rfl) rfl
theorem fl32_7 : Fw.FieldT Try.prog 32 7 7 := Fw.FieldT.of (m := 0) Try.underlying32 rfl (by kernel_rfl) rfl
theorem fl32_8 : Fw.FieldT Try.prog 32 8 8 := Fw.FieldT.of (m := 0) Try.underlying32 rfl (by kernel_rfl) rfl
theorem fl32_9 : Fw.FieldT Try.prog 32 9 9 := Fw.FieldT.of (m := 0) Try.underlying32 rfl (by kernel_rfl) rfl
theorem fl47_0 : Fw.FieldT Try.prog 47 0 0 := Fw.FieldT.of (m := 0) Try.underlying47 rfl (by kernel_rfl) rfl
theorem fl47_1 : Fw.FieldT Try.prog 47 1 1 := Fw.FieldT.of (m := 4) Try.underlying47 rfl (by kernel_rfl) rfl
theorem fl47_2 : Fw.FieldT Try.prog 47 2 6 := Fw.FieldT.of (m := 0) Try.underlying47 rfl (by kernel_rfl) rfl
theorem fl47_3 : Fw.FieldT Try.prog 47 3 7 := Fw.FieldT.of (m := 0) Try.underlying47 rfl (by kernel_rfl) rfl
theorem fl47_4 : Fw.FieldT Try.prog 47 4 8 := Fw.FieldT.of (m := 0) Try.underlying47 rfl (by kernel_rfl) rfl
theorem fl47_5 : Fw.FieldT Try.prog 47 5 9 := Fw.FieldT.of (m := 0) Try.underlying47 rfl (by kernel_rfl) rfl
theorem fl47_6 : Fw.FieldT Try.prog 47 6 10 := Fw.FieldT.of (m := 0) Try.underlying47 rfl (by kernel_rfl) rfl
theorem fl47_7 : Fw.FieldT Try.prog 47 7 11 := Fw.FieldT.of (m := 0) Try.underlying47 rfl (by kernel_rfl) rfl
theorem fl47_8 : Fw.FieldT Try.prog 47 8 12 := Fw.FieldT.of (m := 0) Try.underlying47 rfl (by kernel_rfl) rfl
theorem fl40_0 : Fw.FieldT Try.prog 40 0 0 := Fw.FieldT.of (m := 9) Try.underlying40 rfl (by kernel_rfl) rfl
theorem fl40_1 : Fw.FieldT Try.prog 40 1 10 := Fw.FieldT.of (m := 4) Try.underlying40 rfl (by kernel_rfl) rfl
theorem fl70_0 : Fw.FieldT Try.prog 70 0 0 := Fw.FieldT.of (m := 0) Try.underlying70 rfl (by kernel_rfl) rfl
theorem fl73_0 : Fw.FieldT Try.prog 73 0 0 := Fw.FieldT.of (m := 9) Try.underlying73 rfl (by kernel_rfl) rfl
theorem fl73_1 : Fw.FieldT Try.prog 73 1 10 := Fw.FieldT.of (m := 4) Try.underlying73 rfl (by kernel_rfl) rfl
theorem sc68 : Fw.ScalT Try.prog 68 := Fw.ScalT.of Try.underlying68 rfl
theorem sc2 : Fw.ScalT Try.prog 2 := Fw.ScalT.of Try.underlying2 rfl
theorem sc3 : Fw.ScalT Try.prog 3 := Fw.ScalT.of Try.underlying3 rfl
theorem sc5 : Fw.ScalT Try.prog 5 := Fw.ScalT.of Try.underlying5 rfl
theorem sl22 : SlT Try.prog 22 66 3 24 := SlT.of (by kernel_rfl) (by kernel_rfl) (by omega)
theorem sl48 : SlT Try.prog 48 32 10 80 := SlT.of (by kernel_rfl) (by kernel_rfl) (by omega)
theorem sl97 : SlT Try.prog 97 2 1 8 := SlT.of (by kernel_rfl) (by kernel_rfl) (by omega)
theorem sl58 : SlT Try.prog 58 3 1 8 := SlT.of (by kernel_rfl) (by kernel_rfl) (by omega)
theorem sl43 : SlT Try.prog 43 47 13 104 := SlT.of (by kernel_rfl) (by kernel_rfl) (by omega)
theorem sl28 : SlT Try.prog 28 40 15 120 := SlT.of (by kernel_rfl) (by kernel_rfl) (by omega)
theorem sl104 : SlT Try.prog 104 5 1 1 := SlT.of (by kernel_rfl) (by kernel_rfl) (by omega)
theorem sl68 : SlT Try.prog 68 73 15 120 := SlT.of (by kernel_rfl) (by kernel_rfl) (by omega)
theorem sz57 : Fw.SizeT Try.prog 57 3 := Fw.SizeT.of (by kernel_rfl)
theorem sz68 : Fw.SizeT Try.prog 68 1 := Fw.SizeT.of (by kernel_rfl)
theorem sz36 : Fw.SizeT Try.prog 36 5 := Fw.SizeT.of (by kernel_rfl)
theorem sz45 : Fw.SizeT Try.prog 45 5 := Fw.SizeT.of (by kernel_rfl)
theorem sz66 : Fw.SizeT Try.prog 66 3 := Fw.SizeT.of (by kernel_rfl)
theorem sz32 : Fw.SizeT Try.prog 32 10 := Fw.SizeT.of (by kernel_rfl)
theorem sz2 : Fw.SizeT Try.prog 2 1 := Fw.SizeT.of (by kernel_rfl)
theorem sz3 : Fw.SizeT Try.prog 3 1 := Fw.SizeT.of (by kernel_rfl)
theorem sz47 : Fw.SizeT Try.prog 47 13 := Fw.SizeT.of (by kernel_rfl)
theorem sz40 : Fw.SizeT Try.prog 40 15 := Fw.SizeT.of (by kernel_rfl)
theorem sz5 : Fw.SizeT Try.prog 5 1 := Fw.SizeT.of (by kernel_rfl)
theorem sz70 : Fw.SizeT Try.prog 70 1 := Fw.SizeT.of (by kernel_rfl)
theorem sz73 : Fw.SizeT Try.prog 73 15 := Fw.SizeT.of (by kernel_rfl)
theorem ze57 : Fw.ZeroT Try.prog 57 (.agg #[.int .i64 0, .int .i64 0, .int .i64 0]) := Fw.ZeroT.of (by kernel_rfl)
theorem ze36 : Fw.ZeroT Try.prog 36 (.agg #[.int .i64 0, .int .i64 0, .int .i64 0, .int .i64 0, .int .i64 0]) := Fw.ZeroT.of (by kernel_rfl)
theorem ze45 : Fw.ZeroT Try.prog 45 (.agg #[.int .i64 0, .int .i64 0, .int .i64 0, .int .i64 0, .int .i64 0]) := Fw.ZeroT.of (by kernel_rfl)
theorem ze66 : Fw.ZeroT Try.prog 66 (.agg #[.int .i64 0, .int .i64 0, .int .i64 0]) := Fw.ZeroT.of (by kernel_rfl)
theorem ze32 : Fw.ZeroT Try.prog 32 (.agg #[.int .i64 0, .int .i64 0, .int .i64 0, .int .i64 0, .int .i64 0, .int .i64 0, .int .i64 0, .int .i64 0, .int .i64 0, .int .i64 0]) := Fw.ZeroT.of (by kernel_rfl)
theorem ze47 : Fw.ZeroT Try.prog 47 (.agg #[.int .u8 0, .int .i64 0, .int .i64 0, .int .i64 0, .int .i64 0, .int .i64 0, .int .i64 0, .int .i64 0, .int .i64 0, .int .i64 0, .int .i64 0, .int .i64 0, .int .i64 0]) := Fw.ZeroT.of (by kernel_rfl)
theorem ze40 : Fw.ZeroT Try.prog 40 (.agg #[.int .i64 0, .int .i64 0, .int .i64 0, .int .i64 0, .int .i64 0, .int .i64 0, .int .i64 0, .int .i64 0, .int .i64 0, .int .i64 0, .int .i64 0, .int .i64 0, .int .i64 0, .int .i64 0, .int .i64 0]) := Fw.ZeroT.of (by kernel_rfl)
theorem ze70 : Fw.ZeroT Try.prog 70 (.agg #[.slice none 0 0]) := Fw.ZeroT.of (by kernel_rfl)
theorem zi66 : (Try.prog.info? 66).bind (·.zero) = some (.agg #[.int .i64 0, .int .i64 0, .int .i64 0]) := by kernel_rfl
theorem zi32 : (Try.prog.info? 32).bind (·.zero) = some (.agg #[.int .i64 0, .int .i64 0, .int .i64 0, .int .i64 0, .int .i64 0, .int .i64 0, .int .i64 0, .int .i64 0, .int .i64 0, .int .i64 0]) := by kernel_rfl
theorem zi2 : (Try.prog.info? 2).bind (·.zero) = some (.int .i64 0) := by kernel_rfl
theorem zi3 : (Try.prog.info? 3).bind (·.zero) = some (.int .i64 0) := by kernel_rfl
theorem zi47 : (Try.prog.info? 47).bind (·.zero) = some (.agg #[.int .u8 0, .int .i64 0, .int .i64 0, .int .i64 0, .int .i64 0, .int .i64 0, .int .i64 0, .int .i64 0, .int .i64 0, .int .i64 0, .int .i64 0, .int .i64 0, .int .i64 0]) := by kernel_rfl
theorem zi40 : (Try.prog.info? 40).bind (·.zero) = some (.agg #[.int .i64 0, .int .i64 0, .int .i64 0, .int .i64 0, .int .i64 0, .int .i64 0, .int .i64 0, .int .i64 0, .int .i64 0, .int .i64 0, .int .i64 0, .int .i64 0, .int .i64 0, .int .i64 0, .int .i64 0]) := by kernel_rfl
theorem zi5 : (Try.prog.info? 5).bind (·.zero) = some (.int .u8 0) := by kernel_rfl
theorem zi73 : (Try.prog.info? 73).bind (·.zero) = some (.agg #[.int .i64 0, .int .i64 0, .int .i64 0, .int .i64 0, .int .i64 0, .int .i64 0, .int .i64 0, .int .i64 0, .int .i64 0, .int .i64 0, .int .i64 0, .int .i64 0, .int .i64 0, .int .i64 0, .int .i64 0]) := by kernel_rfl
end Go.Proofs.Ytmohhociomghhaa
