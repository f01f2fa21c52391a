/- The walks of package checksum. -/
import Derived.Test.YtgpdodhegacndaaProg
import Derived.Test.YtgpdodhegacndaaLib
import Derived.Test.YtgpdodhegacndaaCkMath
namespace Go.Proofs.Ytgpdodhegacndaa
set_option linter.unusedSimpArgs false
set_option linter.unusedVariables false
open Go.RowKit

theorem addByte_any (s b : Int) (w : World) :
    Calls Try.prog 48 #[.int .u64 s, .int .u8 b] w fun e w' => e = .returned (.int .u64 (Ck.stepI s b)) ∧ w = w' := by
  go_enter Try.func48, Try.ntmps48
  go_wp2
  go_ret
  exact ⟨rfl, rfl⟩

theorem update_any (s : Int) (A : Option Addr) (l : List Int) (cap : Nat) (w : World) (hr : Rd w A (l.map (Value.int .u8))) (hl : l.length ≤ maxLen) :
    Calls Try.prog 35 #[.int .u64 s, .slice A l.length cap] w fun e w' => e = .returned (.int .u64 (Ck.moreI s l)) ∧ w = w' := by
  unfold maxLen at hl
  have hr := Lib.hid hr
  go_enter Try.func35, Try.ntmps35
  go_wp2
  go_loop [0, 6, 9] (fun t _ i => ∃ k : Nat, k ≤ l.length ∧ i = .int .i64 k ∧ t = .int .u64 (Ck.moreI s (l.take k))) (fun _ _ i => l.length - (intOf i).toNat)
  case atStart => exact ⟨0, Nat.zero_le _, rfl, rfl⟩
  case round =>
    obtain ⟨k, hk, rfl, rfl⟩ := hrel
    by_cases hlt : k < l.length
    · obtain ⟨ad, hA, hc⟩ := hr.out k (.int .u8 l[k]) (by simp [hlt])
      subst hA
      have HT := Lib.hid (Ck.moreI_take (s := s) hlt)
      go_wp2_with (go_at_call 48; refine (addByte_any _ _ _).mono ?_; rintro e w' ⟨rfl, rfl⟩)
      go_round
      case rel => exact ⟨k + 1, by omega, by go_num, by rw [HT.out]⟩
      case measure => simp [intOf]; omega
    · go_wp2
      go_ret
      exact ⟨ret_int (by rw [List.take_of_length_le (by omega)]), rfl⟩

theorem sum_any (A : Option Addr) (l : List Int) (cap : Nat) (w : World) (hr : Rd w A (l.map (Value.int .u8))) (hl : l.length ≤ maxLen) :
    Calls Try.prog 15 #[.slice A l.length cap] w fun e w' => e = .returned (.int .u64 (Ck.moreI Ck.init l)) ∧ w = w' := by
  have h := update_any 14695981039346656037 A l cap w hr hl
  have H := Lib.hid h; clear h
  go_enter Try.func15, Try.ntmps15
  go_wp2_with (go_at_call 35; refine H.out.mono ?_; rintro e w' ⟨rfl, rfl⟩)
  go_ret
  exact ⟨rfl, rfl⟩

theorem addInt_any (s n : Int) (w : World) :
    Calls Try.prog 49 #[.int .u64 s, .int .u64 n] w fun e w' => e = .returned (.int .u64 (Ck.addIntI s n)) ∧ w = w' := by
  go_enter Try.func49, Try.ntmps49
  go_wp2
  go_loop [0, 5, 6] (fun t _ i => ∃ k : Nat, k ≤ 8 ∧ i = .int .i64 k ∧ t = .int .u64 (Ck.moreI s ((Ck.bytesI n).take k))) (fun _ _ i => 8 - (intOf i).toNat)
  case atStart => exact ⟨0, Nat.zero_le _, rfl, rfl⟩
  case round =>
    obtain ⟨k, hk, rfl, rfl⟩ := hrel
    by_cases hlt : k < 8
    · have HT := Lib.hid (Ck.moreI_take (s := s) (l := Ck.bytesI n) (k := k) (by simpa [Ck.bytesI] using hlt))
      go_wp2_with (go_at_call 48; refine (addByte_any _ _ _).mono ?_; rintro e w' ⟨rfl, rfl⟩)
      go_round
      case rel => exact ⟨k + 1, by omega, by go_num, by rw [HT.out]; simp [Ck.bytesI, Ck.byteI]⟩
      case measure => simp [intOf]; omega
    · go_wp2
      go_ret
      exact ⟨ret_int (by rw [List.take_of_length_le (by simp [Ck.bytesI]; omega)]; rfl), rfl⟩

theorem chain_any (prev kind : Int) (A : Option Addr) (l : List Int) (cap : Nat) (w : World) (hr : Rd w A (l.map (Value.int .u8))) (hl : l.length ≤ maxLen) :
    Calls Try.prog 37 #[.int .u64 prev, .int .u8 kind, .slice A l.length cap] w fun e w' => e = .returned (.int .u64 (Ck.recI prev kind l)) ∧ w = w' := by
  have hw : IntKind.u64.wrap (l.length : Int) = (l.length : Int) := by unfold maxLen at hl; rw [IntKind.wrap_u64]; omega
  have HR := Lib.hid hr
  have HL := Lib.hid hl
  clear hr hl
  go_enter Try.func37, Try.ntmps37
  go_wp2_with (first | (go_at_call 49; refine (addInt_any _ _ _).mono ?_; rintro e w' ⟨rfl, rfl⟩) | (go_at_call 48; refine (addByte_any _ _ _).mono ?_; rintro e w' ⟨rfl, rfl⟩) | (go_at_call 35; refine (update_any _ _ _ _ _ HR.out HL.out).mono ?_; rintro e w' ⟨rfl, rfl⟩))
  go_ret
  exact ⟨rfl, rfl⟩

end Go.Proofs.Ytgpdodhegacndaa
