/- Addresses of an array's entries. No program is named here. -/
import Derived.Test.YtmohhociomghhaaFh
namespace Go.Proofs.Ytmohhociomghhaa
set_option linter.unusedSimpArgs false
set_option linter.unusedVariables false
open Go.RowKit
namespace Fw
section
variable {P : Program} {n : Nat} {f : Fr} {C : World → Prop} {t ty : TypeId} {x y : Operand}
theorem val_indexP {e : TypeId} {s len g o o' m : Nat} {k : IntKind} {i : Int} (ht : P.underlying t = some (.array len e)) (hs : SizeT P e s) (hx : ev f x = some (.pointer (some ⟨g, o, none⟩))) (hi : ev f y = some (.int k i)) (hm : i = (m : Nat)) (hlt : m < len)
    (ha : o + m * s = o') : Val P n f C (.indexAddr t x y) ty (.pointer (some ⟨g, o', none⟩)) := fun _ _ _ _ a w hh _ => by
  subst hm ha
  unfold execOp; simp only [hh.eval hx, hh.eval hi]
  simp [Instr.indexAt, Instr.sureAddr, asIntOf, run_underlying ht, hs w, hlt, Addr.add]
end
end Fw
end Go.Proofs.Ytmohhociomghhaa
