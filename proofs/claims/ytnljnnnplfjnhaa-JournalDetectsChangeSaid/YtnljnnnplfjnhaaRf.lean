/- The reference of layer 5: the walks of Int, Put (an integer) and All. -/
import Derived.Test.YtnljnnnplfjnhaaRdI
namespace Go.Proofs.Ytnljnnnplfjnhaa
set_option linter.unusedSimpArgs false
set_option linter.unusedVariables false
open Go.RowKit

/-- bytes of the call's own -/
def Own8 (w : World) (base : Nat) (A : Option Addr) (c : Nat) (l : List Int) : Prop := w.ownsRow base 5 1 (.slice A l.length c) l.length (l.map (.int .u8))
theorem Own8.low {w w' : World} {base c : Nat} {A : Option Addr} {l : List Int} (h : Own8 w base A c l) (hb : Below w.heap.size w w') : Own8 w' base A c l := own_below h hb (Nat.le_refl _)

namespace Wr
theorem zz_nonneg {n : Int} (h : 0 ≤ n) : ((Lib.zigzag n : Nat) : Int) = n * 2 := Lib.zigzag_nonneg h
theorem zz_neg {n : Int} (h : n < 0) : ((Lib.zigzag n : Nat) : Int) = (-(n + 1)) * 2 + 1 := by
  unfold Lib.zigzag; rw [if_neg (by omega)]; omega
end Wr

set_option maxRecDepth 100000 in
set_option maxHeartbeats 400000 in
theorem refInt_any (w : World) (n : Int) (hn : Wr.I64 n) :
    Calls Try.prog 41 #[.int .i64 n] w fun e w' => ∃ A c, e = .returned (.slice A (Wr.enc n).length c) ∧ Own8 w' w.heap.size A c (Wr.enc n) ∧ Below w.heap.size w w' := by
  have HE := Lib.hid (Wr.enc_len hn)
  have HZL := Lib.hid (Lib.zigzag_lt hn.1 hn.2)
  obtain ⟨hn0, hn1⟩ := hn
  have HB0 := Lib.hid ((Below.refl w.heap.size w).alloc (Nat.le_refl _) (.cells #[] 5))
  have HO0 := Lib.hid (own_lit (base := w.heap.size) (w := w) (e := 5) (size := 1) #[] 0 w.heap.size rfl (Nat.le_refl _) (by omega) rfl)
  by_cases hs : n < 0
  all_goals
    go_enter Try.func41, Try.ntmps41
    go_wp2_with fail
    go_loopw [3, 4] (fun u out wr => ∃ (v : Nat) (d : List Int) (A : Option Addr) (c : Nat), u = .int .u64 v ∧ out = .slice A d.length c ∧ Hid (v < 18446744073709551616 ∧ d ++ Wr.vint v = Wr.enc n ∧ Own8 wr w.heap.size A c d ∧ Below w.heap.size w wr)) (fun u _ _ => (intOf u).toNat)
    case atStart => exact ⟨Lib.zigzag n, [], _, _, congrArg _ (by first | exact (Wr.zz_neg hs).symm | exact (Wr.zz_nonneg (by omega)).symm), rfl, ⟨HZL.out, rfl, HO0.out, HB0.out⟩⟩
    case round =>
      obtain ⟨v, d, A, c, rfl, rfl, hrel⟩ := hrel
      obtain ⟨hv, hd, hown, hbel⟩ := hrel.out
      clear hrel
      have hdl : d.length + (Wr.vint v).length ≤ 10 := by rw [← List.length_append, hd]; exact HE.out
      have hvp := Wr.vint_pos v
      have HO := Lib.hid hown
      have HB := Lib.hid hbel
      have HD := Lib.hid hd
      clear hown hbel hd
      by_cases hge : 128 ≤ v
      · go_wp2_with (at_builtin; refine wpList_app (d.length + 1) ((d ++ [((v : Int) % 128 + 128)]).map (.int .u8)) rfl rfl slU8 (own_below HO.out ((Below.refl _ _).alloc (Nat.le_refl _) _) (Nat.le_refl _)) rfl (Rd.one wr (.int .u8 ((v : Int) % 128 + 128)) 5) rfl rfl oneCell_one (by unfold maxLen; omega) (le_alloc HB.out.size _) rfl (by simp) ?_; intro A2 c2 w2 hown2 hbel2 _ _
                     have HO2 := Lib.hid hown2
                     have HB2 := Lib.hid ((HB.out.alloc HB.out.size _).trans hbel2)
                     clear hown2 hbel2)
        go_roundw
        case rel => exact ⟨v / 128, d ++ [((v : Int) % 128 + 128)], A2, c2, rfl, by rw [List.length_append]; rfl, ⟨by omega, by rw [List.append_assoc, List.singleton_append, ← Wr.vint_ge hge]; exact HD.out, by unfold Own8; rw [List.length_append]; exact HO2.out, HB2.out⟩⟩
        case measure => simp [intOf]; omega
      · go_wp2_with (at_builtin; refine wpList_app (d.length + 1) ((d ++ [(v : Int)]).map (.int .u8)) rfl rfl slU8 (own_below HO.out ((Below.refl _ _).alloc (Nat.le_refl _) _) (Nat.le_refl _)) rfl (Rd.one wr (.int .u8 (v : Int)) 5) rfl rfl oneCell_one (by unfold maxLen; omega) (le_alloc HB.out.size _) rfl (by simp) ?_; intro A2 c2 w2 hown2 hbel2 _ _
                     have HO2 := Lib.hid hown2
                     have HB2 := Lib.hid ((HB.out.alloc HB.out.size _).trans hbel2)
                     clear hown2 hbel2)
        go_ret
        have he := HD.out
        rw [Wr.vint_lt (by omega)] at he
        refine ⟨A2, c2, by rw [← he, List.length_append]; rfl, ?_, HB2.out⟩
        rw [← he]; unfold Own8; rw [List.length_append]; exact HO2.out

def thing (n : Int) : Array Value := #[.int .i64 0, .int .i64 n, .bool false, .string ByteArray.empty, .slice none 0 0]

end Go.Proofs.Ytnljnnnplfjnhaa
