/- The reference of layer 5: the walks of Int, Put (an integer) and All. -/
import Derived.Test.YtgpdodhegacndaaRdI
namespace Go.Proofs.Ytgpdodhegacndaa
set_option linter.unusedSimpArgs false
set_option linter.unusedVariables false
open Go.RowKit

/-- bytes of the call's own -/
def Own8 (w : World) (base : Nat) (A : Option Addr) (c : Nat) (l : List Int) : Prop := w.ownsRow base 5 1 (.slice A l.length c) l.length (l.map (.int .u8))
theorem Own8.low {w w' : World} {base c : Nat} {A : Option Addr} {l : List Int} (h : Own8 w base A c l) (hb : Below w.heap.size w w') : Own8 w' base A c l := own_below h hb (Nat.le_refl _)

namespace Wr
theorem zz_nonneg {n : Int} (h : 0 ≤ n) : ((Lib.zigzag n : Nat) : Int) = n * 2 := Lib.zigzag_nonneg h
theorem zz_neg {n : Int} (h : n < 0) : ((Lib.zigzag n : Nat) : Int) = (-(n + 1)) * 2 + 1 := by
  unfold Lib.zigzag; rw [if_neg (by omega)]; omega
end Wr

def thing (n : Int) : Array Value := #[.int .i64 0, .int .i64 n, .bool false, .string ByteArray.empty, .slice none 0 0]

end Go.Proofs.Ytgpdodhegacndaa
