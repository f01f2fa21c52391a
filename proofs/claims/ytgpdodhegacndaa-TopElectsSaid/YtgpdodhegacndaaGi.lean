/- Addresses of an array's entries. No program is named here. -/
import Derived.Test.YtgpdodhegacndaaGh
namespace Go.Proofs.Ytgpdodhegacndaa
set_option linter.unusedSimpArgs false
set_option linter.unusedVariables false
open Go.RowKit
namespace Fw
variable {ds : List Deferred}
section
variable {P : Program} {n : Nat} {f : Fr} {C : World → Prop} {t ty : TypeId} {x y : Operand}
theorem val_indexP {e : TypeId} {s len g o o' m : Nat} {k : IntKind} {i : Int} (ht : P.underlying t = some (.array len e)) (hs : SizeT P e s) (hx : ev f x = some (.pointer (some ⟨g, o, none⟩))) (hi : ev f y = some (.int k i)) (hm : i = (m : Nat)) (hlt : m < len)
    (ha : o + m * s = o') : Val P n f C (.indexAddr t x y) ty (.pointer (some ⟨g, o', none⟩)) := fun _ _ _ _ a w hh _ => by
  subst hm ha
  unfold execOp; simp only [hh.eval hx, hh.eval hi]
  simp [Instr.indexAt, Instr.sureAddr, asIntOf, run_underlying ht, hs w, hlt, Addr.add]
theorem val_str {src dst e : TypeId} {A : Option Addr} {l : List Int} {m c : Nat} (hs : P.underlying src = some (.slice e)) (he : P.underlying e = some (.int .u8)) (hd : P.underlying dst = some .string) (hx : ev f x = some (.slice A m c))
    (hr : ∀ w, C w → Rd w A (l.map (Value.int .u8))) (hn : l.length = m) : Val P n f C (.convert src dst x) ty (.string (bstr l)) := fun _ _ _ _ a w hh hw => by
  unfold execOp; simp only [hh.eval hx]
  simp [run_str w src dst e A l m c hs he hd (hr w hw) hn]
theorem b_neqS {a b : ByteArray} : Bin P .neq t x y (.string a) (.string b) (.bool (decide (a ≠ b))) := fun w => by
  have g : (eqGuard .neq t x y (.string a) (.string b)).run P w = .ok () w := rfl
  have e : (!(a.toList == b.toList)) = decide (a ≠ b) := by
    by_cases h : a = b
    · subst h; simp
    · rw [decide_eq_true h, Bool.not_eq_true', beq_eq_false_iff_ne]; intro h2; exact h (ByteArray.ext (Array.toList_inj.mp (by simpa [ByteArray.toList_eq] using h2)))
  rw [Sem.run_bind, g]; simp only [Result.andThen_ok, binOp_string_neq, Sem.run_pure, e]
end
/-- s[l:h] -/
theorem sliceLH_run {P : Program} {t e : TypeId} {s : Nat} (ht : P.underlying t = some (.slice e)) (hs : SizeT P e s) (A : Option Addr) (len cap l h : Nat) (hl : l ≤ h) (hh : h ≤ cap) (w : World) (kl kh : IntKind) : (Instr.sliceAt t (.slice A len cap) (some (.int kl (l : Int))) (some (.int kh (h : Int))) none).run P w = .ok (.slice (cutA A cap l s) (h - l) (cap - l)) w := by
  have hE : P.elem t = e := by simp [Program.elem, ht]
  have ht' : P.underlying t = some (.slice (P.elem t)) := by rw [hE]; exact ht
  rw [run_sliceAt_slice w t _ _ _ _ ht', run_slice_lh w t A len cap ht' kl kh l h (by omega) (by omega) (by omega)]
  have := hs w
  rw [hE, this]
  simp [sliced, cutA]
theorem val_sliceLH {P : Program} {n : Nat} {f : Fr} {C : World → Prop} {ty : TypeId} {x y z : Operand} {t e : TypeId} {s len cap l h m : Nat} {A : Option Addr} {k k' : IntKind} {i j : Int} (ht : P.underlying t = some (.slice e)) (hs : SizeT P e s) (hx : ev f x = some (.slice A len cap)) (hi : ev f y = some (.int k i)) (hj : ev f z = some (.int k' j))
    (hil : i = (l : Nat)) (hjh : j = (h : Nat)) (hlh : l ≤ h) (hh : h ≤ cap) (hm : h - l = m) :
    Val P n f C (.slice t x (some y) (some z) none) ty (.slice (cutA A cap l s) m (cap - l)) := fun _ _ _ _ a w ha _ => by
  subst hil hjh hm
  unfold execOp; simp only [ha.eval hx, ha.eval hi, ha.eval hj, Option.map_some, Option.map_none]
  simp [sliceLH_run ht hs A len cap l h hlh hh w k k']
/-- a block of the call's own, as a row -/
theorem own_blk {w : World} {base size g n : Nat} {e : TypeId} {cs : Array Value} (h : Blk w g e cs) (hb : base ≤ g) (hm : n ≤ maxLen) (hs : cs.size = n * size) : w.ownsRow base e size (.slice (some ⟨g, 0, none⟩) n n) n cs.toList :=
  ⟨by simpa using hs, .inr ⟨g, n, cs, rfl, hb, h, Nat.le_refl _, hm, hs, List.take_of_length_le (by rw [Array.length_toList, hs]; exact Nat.le_refl _)⟩⟩
end Fw
end Go.Proofs.Ytgpdodhegacndaa
