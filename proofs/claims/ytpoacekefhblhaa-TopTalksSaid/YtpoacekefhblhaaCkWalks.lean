/- The walks of package checksum. -/
import Derived.Test.YtpoacekefhblhaaProg
import Derived.Test.YtpoacekefhblhaaLib
import Derived.Test.YtpoacekefhblhaaCkMath
namespace Go.Proofs.Ytpoacekefhblhaa
set_option linter.unusedSimpArgs false
set_option linter.unusedVariables false
open Go.RowKit

theorem addByte_any (s b : Int) (w : World) :
    Calls Try.prog 35 #[.int .u64 s, .int .u8 b] w fun e w' => e = .returned (.int .u64 (Ck.stepI s b)) ∧ w = w' := by
  go_enter Try.func35, Try.ntmps35
  go_wp2
  go_ret
  exact ⟨rfl, rfl⟩

theorem update_any (s : Int) (A : Option Addr) (l : List Int) (cap : Nat) (w : World) (hr : Rd w A (l.map (Value.int .u8))) (hl : l.length ≤ maxLen) :
    Calls Try.prog 29 #[.int .u64 s, .slice A l.length cap] w fun e w' => e = .returned (.int .u64 (Ck.moreI s l)) ∧ w = w' := by
  unfold maxLen at hl
  have hr := Lib.hid hr
  go_enter Try.func29, Try.ntmps29
  go_wp2
  go_loop [0, 6, 9] (fun t _ i => ∃ k : Nat, k ≤ l.length ∧ i = .int .i64 k ∧ t = .int .u64 (Ck.moreI s (l.take k))) (fun _ _ i => l.length - (intOf i).toNat)
  case atStart => exact ⟨0, Nat.zero_le _, rfl, rfl⟩
  case round =>
    obtain ⟨k, hk, rfl, rfl⟩ := hrel
    by_cases hlt : k < l.length
    · obtain ⟨ad, hA, hc⟩ := hr.out k (.int .u8 l[k]) (by simp [hlt])
      subst hA
      have HT := Lib.hid (Ck.moreI_take (s := s) hlt)
      go_wp2_with (go_at_call 35; refine (addByte_any _ _ _).mono ?_; rintro e w' ⟨rfl, rfl⟩)
      go_round
      case rel => exact ⟨k + 1, by omega, by go_num, by rw [HT.out]⟩
      case measure => simp [intOf]; omega
    · go_wp2
      go_ret
      exact ⟨ret_int (by rw [List.take_of_length_le (by omega)]), rfl⟩

theorem sum_any (A : Option Addr) (l : List Int) (cap : Nat) (w : World) (hr : Rd w A (l.map (Value.int .u8))) (hl : l.length ≤ maxLen) :
    Calls Try.prog 16 #[.slice A l.length cap] w fun e w' => e = .returned (.int .u64 (Ck.moreI Ck.init l)) ∧ w = w' := by
  have h := update_any 14695981039346656037 A l cap w hr hl
  have H := Lib.hid h; clear h
  go_enter Try.func16, Try.ntmps16
  go_wp2_with (go_at_call 29; refine H.out.mono ?_; rintro e w' ⟨rfl, rfl⟩)
  go_ret
  exact ⟨rfl, rfl⟩

end Go.Proofs.Ytpoacekefhblhaa
