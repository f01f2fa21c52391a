/- Package wire: the walks of Writer and Reader (integers alone). -/
import Derived.Test.YtmacmlgjejdhpaaProg
import Derived.Test.YtmacmlgjejdhpaaLib
import Derived.Test.YtmacmlgjejdhpaaSl
import Derived.Test.YtmacmlgjejdhpaaWrMath
import Derived.RegionTactic
import Derived.BigRegion
import Derived.Deep.QuietTactic
import Derived.BigQuiet
import Derived.StillTailTactics
import Derived.Deep.DeepCutAuto
import Derived.Laws.ResultCell
namespace Go.Proofs.Ytmacmlgjejdhpaa
set_option linter.unusedSimpArgs false
set_option linter.unusedVariables false
open Go.RowKit


namespace Wr
theorem zz_bits {n : Int} (h : I64 n) : bits .xor .u64 (IntKind.u64.wrap (IntKind.u64.wrap n * 2)) (IntKind.u64.wrap (n / 9223372036854775808)) = ((Lib.zigzag n : Nat) : Int) := by
  obtain ⟨h0, h1⟩ := h
  by_cases hn : 0 ≤ n
  · have e1 : IntKind.u64.wrap (IntKind.u64.wrap n * 2) = ((2 * n).toNat : Nat) := by rw [IntKind.wrap_u64, IntKind.wrap_u64]; omega
    have e2 : IntKind.u64.wrap (n / 9223372036854775808) = ((0 : Nat) : Int) := by rw [IntKind.wrap_u64]; omega
    rw [e1, e2, bits_xor_u64_nat _ _ (by omega) (by omega), Nat.xor_zero]
    unfold Lib.zigzag; rw [if_pos hn]
  · have e1 := Lib.zigzag_neg h0 (by omega : n < 0)
    have e2 : IntKind.u64.wrap (n / 9223372036854775808) = IntKind.u64.max := by
      rw [IntKind.wrap_u64, show IntKind.u64.max = 18446744073709551615 by decide]; omega
    rw [e2, ← e1]
    have e3 : IntKind.u64.wrap (IntKind.u64.wrap n * 2) = (((2 * n + 18446744073709551616).toNat : Nat) : Int) := by rw [IntKind.wrap_u64, IntKind.wrap_u64]; omega
    have e4 : IntKind.u64.max = ((2 ^ 64 - 1 : Nat) : Int) := by decide
    rw [e3, e4, bits_xor_u64_nat _ _ (by omega) (by decide), bits_xor_u64_nat _ _ (by decide) (by omega), Nat.xor_comm]
theorem byte_or {v : Nat} (h : v < 18446744073709551616) : bits .or .u8 ((v : Int) % 256) 128 = ((v : Int) % 128 + 128) := by
  rw [Lib.u8_or128_any _ (by omega) (by omega)]; omega
end Wr

end Go.Proofs.Ytmacmlgjejdhpaa
