/- Package wire: what was written, and the walks of Reader (integers alone). -/
import Derived.Test.YtmacmlgjejdhpaaWr
import Derived.Test.YtmacmlgjejdhpaaMem
namespace Go.Proofs.Ytmacmlgjejdhpaa
set_option linter.unusedSimpArgs false
set_option linter.unusedVariables false
open Go.RowKit


theorem cutA_block {A : Option Addr} {c k s : Nat} {ad : Addr} (h : cutA A c k s = some ad) : ∃ ad', A = some ad' ∧ ad'.block = ad.block := by
  unfold cutA at h
  split at h
  · exact ⟨ad, h, rfl⟩
  · cases A with
    | none => cases h
    | some a => injection h with h; exact ⟨a, rfl, by rw [← h, block_of_add]⟩

namespace Wr
theorem shl_or {acc k : Nat} {x : Int} (hacc : acc < 128 ^ k) (hk : k ≤ 9) (hx : 0 ≤ x ∧ x < 256) (h9 : k = 9 → x = 1) :
    bits .or .u64 (acc : Int) (IntKind.u64.wrap (x % 128 * 2 ^ (7 * (k : Int)).toNat)) = ((acc + (x % 128).toNat * 128 ^ k : Nat) : Int) := by
  have e1 : (2 : Int) ^ (7 * (k : Int)).toNat = ((128 ^ k : Nat) : Int) := by
    rw [show (7 * (k : Int)).toNat = 7 * k by omega, Int.pow_mul]; norm_cast
  obtain ⟨y, hy⟩ := Int.eq_ofNat_of_zero_le (show 0 ≤ x % 128 by omega)
  have hy1 : y < 128 := by omega
  have hy9 : k = 9 → y = 1 := fun h => by have := h9 h; omega
  rw [e1, hy, Int.toNat_natCast]
  have hle : (128 : Nat) ^ k ≤ 128 ^ 9 := Nat.pow_le_pow_right (by omega) hk
  have : k = 0 ∨ k = 1 ∨ k = 2 ∨ k = 3 ∨ k = 4 ∨ k = 5 ∨ k = 6 ∨ k = 7 ∨ k = 8 ∨ k = 9 := by omega
  rcases this with rfl | rfl | rfl | rfl | rfl | rfl | rfl | rfl | rfl | rfl
  · rw [show (128 : Nat) ^ 0 = 1 by decide] at hacc ⊢
    rw [IntKind.wrap_u64, Int.emod_eq_of_lt (by omega) (by omega)]; have := u64_orv0 (y := (acc : Int)) (x := (y : Int) * ((1 : Nat) : Int)) (by omega) (by omega) (by omega) (by omega) (by omega); exact this.trans (by omega)
  · rw [show (128 : Nat) ^ 1 = 128 by decide] at hacc ⊢
    rw [IntKind.wrap_u64, Int.emod_eq_of_lt (by omega) (by omega)]; have := u64_orv7 (y := (acc : Int)) (x := (y : Int) * ((128 : Nat) : Int)) (by omega) (by omega) (by omega) (by omega) (by omega); exact this.trans (by omega)
  · rw [show (128 : Nat) ^ 2 = 16384 by decide] at hacc ⊢
    rw [IntKind.wrap_u64, Int.emod_eq_of_lt (by omega) (by omega)]; have := u64_orv14 (y := (acc : Int)) (x := (y : Int) * ((16384 : Nat) : Int)) (by omega) (by omega) (by omega) (by omega) (by omega); exact this.trans (by omega)
  · rw [show (128 : Nat) ^ 3 = 2097152 by decide] at hacc ⊢
    rw [IntKind.wrap_u64, Int.emod_eq_of_lt (by omega) (by omega)]; have := u64_orv21 (y := (acc : Int)) (x := (y : Int) * ((2097152 : Nat) : Int)) (by omega) (by omega) (by omega) (by omega) (by omega); exact this.trans (by omega)
  · rw [show (128 : Nat) ^ 4 = 268435456 by decide] at hacc ⊢
    rw [IntKind.wrap_u64, Int.emod_eq_of_lt (by omega) (by omega)]; have := u64_orv28 (y := (acc : Int)) (x := (y : Int) * ((268435456 : Nat) : Int)) (by omega) (by omega) (by omega) (by omega) (by omega); exact this.trans (by omega)
  · rw [show (128 : Nat) ^ 5 = 34359738368 by decide] at hacc ⊢
    rw [IntKind.wrap_u64, Int.emod_eq_of_lt (by omega) (by omega)]; have := u64_orv35 (y := (acc : Int)) (x := (y : Int) * ((34359738368 : Nat) : Int)) (by omega) (by omega) (by omega) (by omega) (by omega); exact this.trans (by omega)
  · rw [show (128 : Nat) ^ 6 = 4398046511104 by decide] at hacc ⊢
    rw [IntKind.wrap_u64, Int.emod_eq_of_lt (by omega) (by omega)]; have := u64_orv42 (y := (acc : Int)) (x := (y : Int) * ((4398046511104 : Nat) : Int)) (by omega) (by omega) (by omega) (by omega) (by omega); exact this.trans (by omega)
  · rw [show (128 : Nat) ^ 7 = 562949953421312 by decide] at hacc ⊢
    rw [IntKind.wrap_u64, Int.emod_eq_of_lt (by omega) (by omega)]; have := u64_orv49 (y := (acc : Int)) (x := (y : Int) * ((562949953421312 : Nat) : Int)) (by omega) (by omega) (by omega) (by omega) (by omega); exact this.trans (by omega)
  · rw [show (128 : Nat) ^ 8 = 72057594037927936 by decide] at hacc ⊢
    rw [IntKind.wrap_u64, Int.emod_eq_of_lt (by omega) (by omega)]; have := u64_orv56 (y := (acc : Int)) (x := (y : Int) * ((72057594037927936 : Nat) : Int)) (by omega) (by omega) (by omega) (by omega) (by omega); exact this.trans (by omega)
  · rw [show (128 : Nat) ^ 9 = 9223372036854775808 by decide] at hacc ⊢
    rw [IntKind.wrap_u64, Int.emod_eq_of_lt (by omega) (by omega)]; have := u64_orv63 (y := (acc : Int)) (x := (y : Int) * ((9223372036854775808 : Nat) : Int)) (by omega) (by omega) (by omega) (by omega) (by omega); exact this.trans (by omega)
end Wr
end Go.Proofs.Ytmacmlgjejdhpaa
