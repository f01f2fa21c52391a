/- Package wire: the walk of Reader.Int. -/
import Derived.Test.YtmacmlgjejdhpaaRd
namespace Go.Proofs.Ytmacmlgjejdhpaa
set_option linter.unusedSimpArgs false
set_option linter.unusedVariables false
open Go.RowKit

namespace Wr
def Bts (l : List Int) : Prop := ∀ x ∈ l, 0 ≤ x ∧ x < 256
theorem shl_or' {acc k : Nat} {x : Int} (hacc : acc < 128 ^ k) (hk : k ≤ 9) (hx : 0 ≤ x ∧ x < 256) (h9 : k = 9 → x = 1) :
    bits .or .u64 (acc : Int) (IntKind.u64.wrap (IntKind.u64.wrap (bits .and .u8 x 127) * 2 ^ (7 * k))) = ((acc + (x % 128).toNat * 128 ^ k : Nat) : Int) := by
  rw [u8_and127 x hx.1 hx.2, show IntKind.u64.wrap (x % 128) = x % 128 by rw [IntKind.wrap_u64]; omega, ← shl_or hacc hk hx h9, show (7 * (k : Int)).toNat = 7 * k by omega]
theorem fin_bits {u : Nat} (h : u < 18446744073709551616) : bits .xor .i64 (wrap64 ((u : Int) / 2)) (wrap64 (-wrap64 (bits .and .u64 (u : Int) 1))) = unzz u := by
  rw [Lib.u64_and1 _ (by omega) (by omega)]
  have e1 : wrap64 ((u : Int) / 2) = ((u / 2 : Nat) : Int) := by unfold wrap64; omega
  unfold unzz
  by_cases hu : u % 2 = 1
  · have e2 : wrap64 (-wrap64 ((u : Int) % 2)) = -1 := by
      rw [show (u : Int) % 2 = 1 by omega]; unfold wrap64; omega
    rw [e1, e2, if_pos hu]
    have : bits .xor .i64 ((u / 2 : Nat) : Int) (-1) = bits .xor .i64 (-1) ((u / 2 : Nat) : Int) := by
      show IntKind.i64.wrap ((BitVec.ofInt 64 ((u / 2 : Nat) : Int) ^^^ BitVec.ofInt 64 (-1)).toNat : Int) = _
      rw [BitVec.xor_comm]; rfl
    rw [this, Lib.i64_not _ (by omega)]
  · have e2 : wrap64 (-wrap64 ((u : Int) % 2)) = 0 := by
      rw [show (u : Int) % 2 = 0 by omega]; unfold wrap64; omega
    rw [e1, e2, if_neg hu]
    show IntKind.i64.wrap ((BitVec.ofInt 64 ((u / 2 : Nat) : Int) ^^^ BitVec.ofInt 64 0).toNat : Int) = _
    have h2 : (BitVec.ofInt 64 ((u / 2 : Nat) : Int)).toNat = u / 2 := by
      rw [BitVec.ofInt_natCast, BitVec.toNat_ofNat]; exact Nat.mod_eq_of_lt (by omega)
    rw [show BitVec.ofInt 64 0 = 0#64 from rfl, BitVec.xor_zero, h2, IntKind.wrap_i64]
    omega
end Wr

end Go.Proofs.Ytmacmlgjejdhpaa
