/- The walks of package checksum. -/
import Derived.Test.YtmohhociomghhaaProg
import Derived.Test.YtmohhociomghhaaLib
import Derived.Test.YtmohhociomghhaaCkMath
namespace Go.Proofs.Ytmohhociomghhaa
set_option linter.unusedSimpArgs false
set_option linter.unusedVariables false
open Go.RowKit

theorem addByte_any (s b : Int) (w : World) :
    Calls Try.prog 58 #[.int .u64 s, .int .u8 b] w fun e w' => e = .returned (.int .u64 (Ck.stepI s b)) ∧ w = w' := by
  go_enter Try.func58, Try.ntmps58
  go_wp2
  go_ret
  exact ⟨rfl, rfl⟩

theorem addInt_any (s n : Int) (w : World) :
    Calls Try.prog 55 #[.int .u64 s, .int .u64 n] w fun e w' => e = .returned (.int .u64 (Ck.addIntI s n)) ∧ w = w' := by
  go_enter Try.func55, Try.ntmps55
  go_wp2
  go_loop [0, 5, 6] (fun t _ i => ∃ k : Nat, k ≤ 8 ∧ i = .int .i64 k ∧ t = .int .u64 (Ck.moreI s ((Ck.bytesI n).take k))) (fun _ _ i => 8 - (intOf i).toNat)
  case atStart => exact ⟨0, Nat.zero_le _, rfl, rfl⟩
  case round =>
    obtain ⟨k, hk, rfl, rfl⟩ := hrel
    by_cases hlt : k < 8
    · have HT := Lib.hid (Ck.moreI_take (s := s) (l := Ck.bytesI n) (k := k) (by simpa [Ck.bytesI] using hlt))
      go_wp2_with (go_at_call 58; refine (addByte_any _ _ _).mono ?_; rintro e w' ⟨rfl, rfl⟩)
      go_round
      case rel => exact ⟨k + 1, by omega, by go_num, by rw [HT.out]; simp [Ck.bytesI, Ck.byteI]⟩
      case measure => simp [intOf]; omega
    · go_wp2
      go_ret
      exact ⟨ret_int (by rw [List.take_of_length_le (by simp [Ck.bytesI]; omega)]; rfl), rfl⟩

set_option maxRecDepth 100000 in
theorem sumInts_any (A : Option Addr) (l : List Int) (cap : Nat) (w : World) (hr : Rd w A (l.map (Value.int .i64))) (hl : l.length ≤ maxLen) :
    Calls Try.prog 46 #[.slice A l.length cap] w fun e w' => e = .returned (.int .u64 (Ck.intsI l)) ∧ w = w' := by
  unfold maxLen at hl
  have HR := Lib.hid hr
  clear hr
  go_enter Try.func46, Try.ntmps46
  go_wp2
  go_loop [3, 5, 8] (fun t _ i => ∃ k : Nat, k ≤ l.length ∧ i = .int .i64 k ∧ t = .int .u64 (Ck.intsI (l.take k))) (fun _ _ i => l.length - (intOf i).toNat)
  case atStart => exact ⟨0, Nat.zero_le _, rfl, rfl⟩
  case round =>
    obtain ⟨k, hk, rfl, rfl⟩ := hrel
    by_cases hlt : k < l.length
    · obtain ⟨ad, hA, hc⟩ := HR.out k (.int .i64 l[k]) (by simp [hlt])
      subst hA
      have HT := Lib.hid (Ck.intsI_take hlt)
      go_wp2_with (go_at_call 55; refine (addInt_any _ _ _).mono ?_; rintro e w' ⟨rfl, rfl⟩)
      go_round
      case rel => exact ⟨k + 1, by omega, by go_num, by rw [HT.out]⟩
      case measure => simp [intOf]; omega
    · go_wp2
      go_ret
      exact ⟨ret_int (by rw [List.take_of_length_le (by omega)]), rfl⟩

end Go.Proofs.Ytmohhociomghhaa
