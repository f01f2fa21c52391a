/- Byte slices of this program. -/
import Derived.Test.YtgpdodhegacndaaProg
import Derived.Test.YtgpdodhegacndaaLib
namespace Go.Proofs.Ytgpdodhegacndaa
set_option linter.unusedSimpArgs false
set_option linter.unusedVariables false
open Go.RowKit

theorem slU8 : SlT Try.prog 56 5 1 1 := SlT.of (by kernel_rfl) (by kernel_rfl) (by omega)
theorem u8zero : (Try.prog.info? 5).bind (·.zero) = some (.int .u8 0) := by kernel_rfl
theorem strU8 (W : World) (A : Option Addr) (l : List Int) (n c : Nat) (hr : Rd W A (l.map (Value.int .u8))) (hn : l.length = n) : (convert 56 9 (.slice A n c)).run Try.prog W = .ok (.string (bstr l)) W :=
  run_str W _ _ 5 A l n c Try.underlying56 Try.underlying5 Try.underlying9 hr hn
end Go.Proofs.Ytgpdodhegacndaa
