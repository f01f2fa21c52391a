/- Closed facts on types and functions. -/
import Derived.Test.YtgpdodhegacndaaProg
import Derived.Test.YtgpdodhegacndaaGg
import Derived.Test.YtgpdodhegacndaaGh
namespace Go.Proofs.Ytgpdodhegacndaa
set_option linter.unusedSimpArgs false
set_option linter.unusedVariables false
set_option linter.unusedVariables false
open Go.RowKit
theorem ag47 : Fw.AggT Try.prog 47 2 := Fw.AggT.of Try.underlying47 rfl (by kernel_rfl)
theorem ag26 : Fw.AggT Try.prog 26 2 := Fw.AggT.of Try.underlying26 rfl (by kernel_rfl)
theorem ag64 : Fw.AggT Try.prog 64 2 := Fw.AggT.of Try.underlying64 rfl (by kernel_rfl)
theorem ag43 : Fw.AggT Try.prog 43 5 := Fw.AggT.of Try.underlying43 rfl (by kernel_rfl)
theorem bu47_0_1 (a0 : Int) (a1 : Int) : Try.prog.built 47 [(0, .int .i64 a0), (1, .int .i64 a1)] = some #[.int .i64 a0, .int .i64 a1] := by kernel_rfl
theorem bu26_  : Try.prog.built 26 [] = some #[.slice none 0 0, .slice none 0 0] := by kernel_rfl
theorem bu26_0 (a0 : Option Addr) (a0n a0c : Nat) : Try.prog.built 26 [(0, .slice a0 a0n a0c)] = some #[.slice a0 a0n a0c, .slice none 0 0] := by kernel_rfl
theorem bu26_0_1 (a0 : Option Addr) (a0n a0c : Nat) (a1 : Option Addr) (a1n a1c : Nat) : Try.prog.built 26 [(0, .slice a0 a0n a0c), (1, .slice a1 a1n a1c)] = some #[.slice a0 a0n a0c, .slice a1 a1n a1c] := by kernel_rfl
theorem bu62_0 (a0 : Option Addr) : Try.prog.built 62 [(0, .pointer a0)] = some #[.pointer a0, .slice none 0 0, .slice none 0 0] := by kernel_rfl
theorem bu64_  : Try.prog.built 64 [] = some #[.int .u8 0, .slice none 0 0] := by kernel_rfl
theorem bu64_0_1 (a0 : Int) (a1 : Option Addr) (a1n a1c : Nat) : Try.prog.built 64 [(0, .int .u8 a0), (1, .slice a1 a1n a1c)] = some #[.int .u8 a0, .slice a1 a1n a1c] := by kernel_rfl
theorem bu75_  : Try.prog.built 75 [] = some #[.slice none 0 0, .int .i64 0, .bool false] := by kernel_rfl
theorem bu71_0_2 (a0 : Option Addr) (a2 : Int) : Try.prog.built 71 [(0, .pointer a0), (2, .int .i64 a2)] = some #[.pointer a0, .int .i64 0, .int .i64 a2] := by kernel_rfl
theorem bu104_0 (a0 : Option Addr) (a0n a0c : Nat) : Try.prog.built 104 [(0, .slice a0 a0n a0c)] = some #[.slice a0 a0n a0c, .int .i64 0] := by kernel_rfl
theorem cf41 : Fw.CallT Try.prog 41 := Fw.CallT.of Try.func41 (by kernel_rfl) (by kernel_rfl)
theorem cf24 : Fw.CallT Try.prog 24 := Fw.CallT.of Try.func24 (by kernel_rfl) (by kernel_rfl)
theorem cf42 : Fw.CallT Try.prog 42 := Fw.CallT.of Try.func42 (by kernel_rfl) (by kernel_rfl)
theorem cf19 : Fw.CallT Try.prog 19 := Fw.CallT.of Try.func19 (by kernel_rfl) (by kernel_rfl)
theorem cf10 : Fw.CallT Try.prog 10 := Fw.CallT.of Try.func10 (by kernel_rfl) (by kernel_rfl)
theorem cf11 : Fw.CallT Try.prog 11 := Fw.CallT.of Try.func11 (by kernel_rfl) (by kernel_rfl)
theorem cf23 : Fw.CallT Try.prog 23 := Fw.CallT.of Try.func23 (by kernel_rfl) (by kernel_rfl)
theorem cf22 : Fw.CallT Try.prog 22 := Fw.CallT.of Try.func22 (by kernel_rfl) (by kernel_rfl)
theorem cf53 : Fw.CallT Try.prog 53 := Fw.CallT.of Try.func53 (by kernel_rfl) (by kernel_rfl)
theorem cf12 : Fw.CallT Try.prog 12 := Fw.CallT.of Try.func12 (by kernel_rfl) (by kernel_rfl)
theorem cf25 : Fw.CallT Try.prog 25 := Fw.CallT.of Try.func25 (by kernel_rfl) (by kernel_rfl)
theorem cf26 : Fw.CallT Try.prog 26 := Fw.CallT.of Try.func26 (by kernel_rfl) (by kernel_rfl)
theorem cf30 : Fw.CallT Try.prog 30 := Fw.CallT.of Try.func30 (by kernel_rfl) (by kernel_rfl)
theorem cf40 : Fw.CallT Try.prog 40 := Fw.CallT.of Try.func40 (by kernel_rfl) (by kernel_rfl)
theorem cf39 : Fw.CallT Try.prog 39 := Fw.CallT.of Try.func39 (by kernel_rfl) (by kernel_rfl)
theorem cf51 : Fw.CallT Try.prog 51 := Fw.CallT.of Try.func51 (by kernel_rfl) (by kernel_rfl)
theorem cf50 : Fw.CallT Try.prog 50 := Fw.CallT.of Try.func50 (by kernel_rfl) (by kernel_rfl)
theorem cf31 : Fw.CallT Try.prog 31 := Fw.CallT.of Try.func31 (by kernel_rfl) (by kernel_rfl)
theorem cf29 : Fw.CallT Try.prog 29 := Fw.CallT.of Try.func29 (by kernel_rfl) (by kernel_rfl)
theorem cf71 : Fw.CallT Try.prog 71 := Fw.CallT.of Try.func71 (by kernel_rfl) (by kernel_rfl)
theorem cf33 : Fw.CallT Try.prog 33 := Fw.CallT.of Try.func33 (by kernel_rfl) (by kernel_rfl)
theorem cf37 : Fw.CallT Try.prog 37 := Fw.CallT.of Try.func37 (by kernel_rfl) (by kernel_rfl)
theorem cf15 : Fw.CallT Try.prog 15 := Fw.CallT.of Try.func15 (by kernel_rfl) (by kernel_rfl)
theorem cf35 : Fw.CallT Try.prog 35 := Fw.CallT.of Try.func35 (by kernel_rfl) (by kernel_rfl)
theorem cf48 : Fw.CallT Try.prog 48 := Fw.CallT.of Try.func48 (by kernel_rfl) (by kernel_rfl)
theorem cf49 : Fw.CallT Try.prog 49 := Fw.CallT.of Try.func49 (by kernel_rfl) (by kernel_rfl)
theorem cf7 : Fw.CallT Try.prog 7 := Fw.CallT.of Try.func7 (by kernel_rfl) (by kernel_rfl)
theorem cf52 : Fw.CallT Try.prog 52 := Fw.CallT.of Try.func52 (by kernel_rfl) (by kernel_rfl)
theorem cf21 : Fw.CallT Try.prog 21 := Fw.CallT.of Try.func21 (by kernel_rfl) (by kernel_rfl)
theorem cf36 : Fw.CallT Try.prog 36 := Fw.CallT.of Try.func36 (by kernel_rfl) (by kernel_rfl)
theorem cf20 : Fw.CallT Try.prog 20 := Fw.CallT.of Try.func20 (by kernel_rfl) (by kernel_rfl)
theorem cf5 : Fw.CallT Try.prog 5 := Fw.CallT.of Try.func5 (by kernel_rfl) (by kernel_rfl)
theorem cf14 : Fw.CallT Try.prog 14 := Fw.CallT.of Try.func14 (by kernel_rfl) (by kernel_rfl)
theorem cf16 : Fw.CallT Try.prog 16 := Fw.CallT.of Try.func16 (by kernel_rfl) (by kernel_rfl)
theorem cf34 : Fw.CallT Try.prog 34 := Fw.CallT.of Try.func34 (by kernel_rfl) (by kernel_rfl)
theorem cf47 : Fw.CallT Try.prog 47 := Fw.CallT.of Try.func47 (by kernel_rfl) (by kernel_rfl)
theorem cf17 : Fw.CallT Try.prog 17 := Fw.CallT.of Try.func17 (by kernel_rfl) (by kernel_rfl)
theorem cf6 : Fw.CallT Try.prog 6 := Fw.CallT.of Try.func6 (by kernel_rfl) (by kernel_rfl)
theorem cf3 : Fw.CallT Try.prog 3 := Fw.CallT.of Try.func3 (by kernel_rfl) (by kernel_rfl)
theorem cf4 : Fw.CallT Try.prog 4 := Fw.CallT.of Try.func4 (by kernel_rfl) (by kernel_rfl)
theorem cf9 : Fw.CallT Try.prog 9 := Fw.CallT.of Try.func9 (by kernel_rfl) (by kernel_rfl)
theorem cf8 : Fw.CallT Try.prog 8 := Fw.CallT.of Try.func8 (by kernel_rfl) (by kernel_rfl)
theorem cf13 : Fw.CallT Try.prog 13 := Fw.CallT.of Try.func13 (by kernel_rfl) (by kernel_rfl)
theorem cf28 : Fw.CallT Try.prog 28 := Fw.CallT.of Try.func28 (by kernel_rfl) (by kernel_rfl)
theorem cf27 : Fw.CallT Try.prog 27 := Fw.CallT.of Try.func27 (by kernel_rfl) (by kernel_rfl)
theorem cf38 : Fw.CallT Try.prog 38 := Fw.CallT.of Try.func38 (by kernel_rfl) (by kernel_rfl)
theorem cf54 : Fw.CallT Try.prog 54 := Fw.CallT.of Try.func54 (by kernel_rfl) (by kernel_rfl)
theorem cf18 : Fw.CallT Try.prog 18 := Fw.CallT.of Try.func18 (by kernel_rfl) (by kernel_rfl)
theorem cf43 : Fw.CallT Try.prog 43 := Fw.CallT.of Try.func43 (by kernel_rfl) (by kernel_rfl)
theorem cf46 : Fw.CallT Try.prog 46 := Fw.CallT.of Try.func46 (by kernel_rfl) (by kernel_rfl)
theorem cf57 : Fw.CallT Try.prog 57 := Fw.CallT.of Try.func57 (by kernel_rfl) (by kernel_rfl)
theorem cf44 : Fw.CallT Try.prog 44 := Fw.CallT.of Try.func44 (by kernel_rfl) (by kernel_rfl)
theorem cf32 : Fw.CallT Try.prog 32 := Fw.CallT.of Try.func32 (by kernel_rfl) (by kernel_rfl)
theorem cf60 : Fw.CallT Try.prog 60 := Fw.CallT.of Try.func60 (by kernel_rfl) (by kernel_rfl)
theorem cf61 : Fw.CallT Try.prog 61 := Fw.CallT.of Try.func61 (by kernel_rfl) (by kernel_rfl)
theorem cf59 : Fw.CallT Try.prog 59 := Fw.CallT.of Try.func59 (by kernel_rfl) (by kernel_rfl)
theorem cf58 : Fw.CallT Try.prog 58 := Fw.CallT.of Try.func58 (by kernel_rfl) (by kernel_rfl)
theorem cf72 : Fw.CallT Try.prog 72 := Fw.CallT.of Try.func72 (by kernel_rfl) (by kernel_rfl)
theorem cf73 : Fw.CallT Try.prog 73 := Fw.CallT.of Try.func73 (by kernel_rfl) (by kernel_rfl)
theorem cf70 : Fw.CallT Try.prog 70 := Fw.CallT.of Try.func70 (by kernel_rfl) (by kernel_rfl)
theorem cf75 : Fw.CallT Try.prog 75 := Fw.CallT.of Try.func75 (by kernel_rfl) (by kernel_rfl)
theorem cf63 : Fw.CallT Try.prog 63 := Fw.CallT.of Try.func63 (by kernel_rfl) (by kernel_rfl)
theorem cf65 : Fw.CallT Try.prog 65 := Fw.CallT.of Try.func65 (by kernel_rfl) (by kernel_rfl)
theorem cf66 : Fw.CallT Try.prog 66 := Fw.CallT.of Try.func66 (by kernel_rfl) (by kernel_rfl)
theorem cf55 : Fw.CallT Try.prog 55 := Fw.CallT.of Try.func55 (by kernel_rfl) (by kernel_rfl)
theorem cf62 : Fw.CallT Try.prog 62 := Fw.CallT.of Try.func62 (by kernel_rfl) (by kernel_rfl)
theorem cf69 : Fw.CallT Try.prog 69 := Fw.CallT.of Try.func69 (by kernel_rfl) (by kernel_rfl)
theorem fl26_0 : Fw.FieldT Try.prog 26 0 0 := Fw.FieldT.of (m := 0) Try.underlying26 rfl (by kernel_rfl) rfl
theorem fl26_1 : Fw.FieldT Try.prog 26 1 1 := Fw.FieldT.of (m := 0) Try.underlying26 rfl (by kernel_rfl) rfl
theorem fl62_0 : Fw.FieldT Try.prog 62 0 0 := Fw.FieldT.of (m := 0) Try.underlying62 rfl (by kernel_rfl) rfl
theorem fl62_1 : Fw.FieldT Try.prog 62 1 1 := Fw.FieldT.of (m := 0) Try.underlying62 rfl (by kernel_rfl) rfl
theorem fl62_2 : Fw.FieldT Try.prog 62 2 2 := Fw.FieldT.of (m := 0) Try.underlying62 rfl (by kernel_rfl) rfl
theorem fl64_0 : Fw.FieldT Try.prog 64 0 0 := Fw.FieldT.of (m := 0) Try.underlying64 rfl (by kernel_rfl) rfl
theorem fl64_1 : Fw.FieldT Try.prog 64 1 1 := Fw.FieldT.of (m := 0) Try.underlying64 rfl (by kernel_rfl) rfl
theorem fl43_0 : Fw.FieldT Try.prog 43 0 0 := Fw.FieldT.of (m := 0) Try.underlying43 rfl (by kernel_rfl) rfl
theorem fl43_1 : Fw.FieldT Try.prog 43 1 1 := Fw.FieldT.of (m := 0) Try.underlying43 rfl (by kernel_rfl) rfl
theorem fl43_2 : Fw.FieldT Try.prog 43 2 2 := Fw.FieldT.of (m := 0) Try.underlying43 rfl (by kernel_rfl) rfl
theorem fl43_3 : Fw.FieldT Try.prog 43 3 3 := Fw.FieldT.of (m := 0) Try.underlying43 rfl (by kernel_rfl) rfl
theorem fl43_4 : Fw.FieldT Try.prog 43 4 4 := Fw.FieldT.of (m := 0) Try.underlying43 rfl (by kernel_rfl) rfl
theorem fl75_0 : Fw.FieldT Try.prog 75 0 0 := Fw.FieldT.of (m := 0) Try.underlying75 rfl (by kernel_rfl) rfl
theorem fl75_1 : Fw.FieldT Try.prog 75 1 1 := Fw.FieldT.of (m := 0) Try.underlying75 rfl (by kernel_rfl) rfl
theorem fl75_2 : Fw.FieldT Try.prog 75 2 2 := Fw.FieldT.of (m := 0) Try.underlying75 rfl (by kernel_rfl) rfl
theorem fl71_0 : Fw.FieldT Try.prog 71 0 0 := Fw.FieldT.of (m := 0) Try.underlying71 rfl (by kernel_rfl) rfl
theorem fl71_1 : Fw.FieldT Try.prog 71 1 1 := Fw.FieldT.of (m := 0) Try.underlying71 rfl (by kernel_rfl) rfl
theorem fl71_2 : Fw.FieldT Try.prog 71 2 2 := Fw.FieldT.of (m := 0) Try.underlying71 rfl (by kernel_rfl) rfl
theorem fl104_0 : Fw.FieldT Try.prog 104 0 0 := Fw.FieldT.of (m := 0) Try.underlying104 rfl (by kernel_rfl) rfl
theorem fl104_1 : Fw.FieldT Try.prog 104 1 1 := Fw.FieldT.of (m := 0) Try.underlying104 rfl (by kernel_rfl) rfl
theorem fl78_0 : Fw.FieldT Try.prog 78 0 0 := Fw.FieldT.of (m := 0) Try.underlying78 rfl (by kernel_rfl) rfl
theorem sc34 : Fw.ScalT Try.prog 34 := Fw.ScalT.of Try.underlying34 rfl
theorem sc30 : Fw.ScalT Try.prog 30 := Fw.ScalT.of Try.underlying30 rfl
theorem sc32 : Fw.ScalT Try.prog 32 := Fw.ScalT.of Try.underlying32 rfl
theorem sc23 : Fw.ScalT Try.prog 23 := Fw.ScalT.of Try.underlying23 rfl
theorem sc59 : Fw.ScalT Try.prog 59 := Fw.ScalT.of Try.underlying59 rfl
theorem sc60 : Fw.ScalT Try.prog 60 := Fw.ScalT.of Try.underlying60 rfl
theorem sc56 : Fw.ScalT Try.prog 56 := Fw.ScalT.of Try.underlying56 rfl
theorem sc27 : Fw.ScalT Try.prog 27 := Fw.ScalT.of Try.underlying27 rfl
theorem sc4 : Fw.ScalT Try.prog 4 := Fw.ScalT.of Try.underlying4 rfl
theorem sc2 : Fw.ScalT Try.prog 2 := Fw.ScalT.of Try.underlying2 rfl
theorem sc3 : Fw.ScalT Try.prog 3 := Fw.ScalT.of Try.underlying3 rfl
theorem sc127 : Fw.ScalT Try.prog 127 := Fw.ScalT.of Try.underlying127 rfl
theorem sc9 : Fw.ScalT Try.prog 9 := Fw.ScalT.of Try.underlying9 rfl
theorem sc51 : Fw.ScalT Try.prog 51 := Fw.ScalT.of Try.underlying51 rfl
theorem sc5 : Fw.ScalT Try.prog 5 := Fw.ScalT.of Try.underlying5 rfl
theorem sl46 : SlT Try.prog 46 47 2 16 := SlT.of (by kernel_rfl) (by kernel_rfl) (by omega)
theorem sl23 : SlT Try.prog 23 3 1 8 := SlT.of (by kernel_rfl) (by kernel_rfl) (by omega)
theorem sl59 : SlT Try.prog 59 64 2 32 := SlT.of (by kernel_rfl) (by kernel_rfl) (by omega)
theorem sl22 : SlT Try.prog 22 43 5 5 := SlT.of (by kernel_rfl) (by kernel_rfl) (by omega)
theorem sl60 : SlT Try.prog 60 51 1 8 := SlT.of (by kernel_rfl) (by kernel_rfl) (by omega)
theorem sl56 : SlT Try.prog 56 5 1 1 := SlT.of (by kernel_rfl) (by kernel_rfl) (by omega)
theorem sz34 : Fw.SizeT Try.prog 34 1 := Fw.SizeT.of (by kernel_rfl)
theorem sz30 : Fw.SizeT Try.prog 30 1 := Fw.SizeT.of (by kernel_rfl)
theorem sz32 : Fw.SizeT Try.prog 32 1 := Fw.SizeT.of (by kernel_rfl)
theorem sz47 : Fw.SizeT Try.prog 47 2 := Fw.SizeT.of (by kernel_rfl)
theorem sz31 : Fw.SizeT Try.prog 31 5 := Fw.SizeT.of (by kernel_rfl)
theorem sz33 : Fw.SizeT Try.prog 33 5 := Fw.SizeT.of (by kernel_rfl)
theorem sz23 : Fw.SizeT Try.prog 23 1 := Fw.SizeT.of (by kernel_rfl)
theorem sz59 : Fw.SizeT Try.prog 59 1 := Fw.SizeT.of (by kernel_rfl)
theorem sz60 : Fw.SizeT Try.prog 60 1 := Fw.SizeT.of (by kernel_rfl)
theorem sz56 : Fw.SizeT Try.prog 56 1 := Fw.SizeT.of (by kernel_rfl)
theorem sz27 : Fw.SizeT Try.prog 27 1 := Fw.SizeT.of (by kernel_rfl)
theorem sz26 : Fw.SizeT Try.prog 26 2 := Fw.SizeT.of (by kernel_rfl)
theorem sz4 : Fw.SizeT Try.prog 4 1 := Fw.SizeT.of (by kernel_rfl)
theorem sz2 : Fw.SizeT Try.prog 2 1 := Fw.SizeT.of (by kernel_rfl)
theorem sz3 : Fw.SizeT Try.prog 3 1 := Fw.SizeT.of (by kernel_rfl)
theorem sz62 : Fw.SizeT Try.prog 62 3 := Fw.SizeT.of (by kernel_rfl)
theorem sz64 : Fw.SizeT Try.prog 64 2 := Fw.SizeT.of (by kernel_rfl)
theorem sz43 : Fw.SizeT Try.prog 43 5 := Fw.SizeT.of (by kernel_rfl)
theorem sz127 : Fw.SizeT Try.prog 127 1 := Fw.SizeT.of (by kernel_rfl)
theorem sz75 : Fw.SizeT Try.prog 75 3 := Fw.SizeT.of (by kernel_rfl)
theorem sz9 : Fw.SizeT Try.prog 9 1 := Fw.SizeT.of (by kernel_rfl)
theorem sz51 : Fw.SizeT Try.prog 51 1 := Fw.SizeT.of (by kernel_rfl)
theorem sz5 : Fw.SizeT Try.prog 5 1 := Fw.SizeT.of (by kernel_rfl)
theorem sz71 : Fw.SizeT Try.prog 71 3 := Fw.SizeT.of (by kernel_rfl)
theorem sz104 : Fw.SizeT Try.prog 104 2 := Fw.SizeT.of (by kernel_rfl)
theorem sz78 : Fw.SizeT Try.prog 78 1 := Fw.SizeT.of (by kernel_rfl)
theorem ze47 : Fw.ZeroT Try.prog 47 (.agg #[.int .i64 0, .int .i64 0]) := Fw.ZeroT.of (by kernel_rfl)
theorem ze31 : Fw.ZeroT Try.prog 31 (.agg #[.pointer none, .pointer none, .pointer none, .pointer none, .pointer none]) := Fw.ZeroT.of (by kernel_rfl)
theorem ze33 : Fw.ZeroT Try.prog 33 (.agg #[.pointer none, .pointer none, .pointer none, .pointer none, .pointer none]) := Fw.ZeroT.of (by kernel_rfl)
theorem ze23 : Fw.ZeroT Try.prog 23 (.slice none 0 0) := Fw.ZeroT.of (by kernel_rfl)
theorem ze26 : Fw.ZeroT Try.prog 26 (.agg #[.slice none 0 0, .slice none 0 0]) := Fw.ZeroT.of (by kernel_rfl)
theorem ze4 : Fw.ZeroT Try.prog 4 (.bool false) := Fw.ZeroT.of (by kernel_rfl)
theorem ze2 : Fw.ZeroT Try.prog 2 (.int .i64 0) := Fw.ZeroT.of (by kernel_rfl)
theorem ze3 : Fw.ZeroT Try.prog 3 (.int .i64 0) := Fw.ZeroT.of (by kernel_rfl)
theorem ze62 : Fw.ZeroT Try.prog 62 (.agg #[.pointer none, .slice none 0 0, .slice none 0 0]) := Fw.ZeroT.of (by kernel_rfl)
theorem ze64 : Fw.ZeroT Try.prog 64 (.agg #[.int .u8 0, .slice none 0 0]) := Fw.ZeroT.of (by kernel_rfl)
theorem ze43 : Fw.ZeroT Try.prog 43 (.agg #[.int .u8 0, .int .u8 0, .int .u8 0, .bool false, .int .u8 0]) := Fw.ZeroT.of (by kernel_rfl)
theorem ze127 : Fw.ZeroT Try.prog 127 (.int .u64 0) := Fw.ZeroT.of (by kernel_rfl)
theorem ze75 : Fw.ZeroT Try.prog 75 (.agg #[.slice none 0 0, .int .i64 0, .bool false]) := Fw.ZeroT.of (by kernel_rfl)
theorem ze71 : Fw.ZeroT Try.prog 71 (.agg #[.pointer none, .int .i64 0, .int .i64 0]) := Fw.ZeroT.of (by kernel_rfl)
theorem ze104 : Fw.ZeroT Try.prog 104 (.agg #[.slice none 0 0, .int .i64 0]) := Fw.ZeroT.of (by kernel_rfl)
theorem ze78 : Fw.ZeroT Try.prog 78 (.agg #[.slice none 0 0]) := Fw.ZeroT.of (by kernel_rfl)
theorem zi47 : (Try.prog.info? 47).bind (·.zero) = some (.agg #[.int .i64 0, .int .i64 0]) := by kernel_rfl
theorem zi23 : (Try.prog.info? 23).bind (·.zero) = some (.slice none 0 0) := by kernel_rfl
theorem zi56 : (Try.prog.info? 56).bind (·.zero) = some (.slice none 0 0) := by kernel_rfl
theorem zi4 : (Try.prog.info? 4).bind (·.zero) = some (.bool false) := by kernel_rfl
theorem zi2 : (Try.prog.info? 2).bind (·.zero) = some (.int .i64 0) := by kernel_rfl
theorem zi3 : (Try.prog.info? 3).bind (·.zero) = some (.int .i64 0) := by kernel_rfl
theorem zi64 : (Try.prog.info? 64).bind (·.zero) = some (.agg #[.int .u8 0, .slice none 0 0]) := by kernel_rfl
theorem zi43 : (Try.prog.info? 43).bind (·.zero) = some (.agg #[.int .u8 0, .int .u8 0, .int .u8 0, .bool false, .int .u8 0]) := by kernel_rfl
theorem zi51 : (Try.prog.info? 51).bind (·.zero) = some (.int .u64 0) := by kernel_rfl
theorem zi5 : (Try.prog.info? 5).bind (·.zero) = some (.int .u8 0) := by kernel_rfl
end Go.Proofs.Ytgpdodhegacndaa
