/- The reference of layer 5: All over integers, and Reader. -/
import Derived.Test.YtgpdodhegacndaaRf
namespace Go.Proofs.Ytgpdodhegacndaa
set_option linter.unusedSimpArgs false
set_option linter.unusedVariables false
open Go.RowKit

namespace Wr
def encs (l : List Int) : List Int := l.flatMap enc
theorem encs_take {l : List Int} {k : Nat} (h : k < l.length) : encs (l.take (k + 1)) = encs (l.take k) ++ enc l[k] := by
  unfold encs; rw [List.take_succ_eq_append_getElem h, List.flatMap_append]; simp
theorem encs_len : ∀ {l : List Int}, (∀ x ∈ l, I64 x) → (encs l).length ≤ 10 * l.length
  | [], _ => by simp [encs]
  | x :: l, h => by
    have h1 := enc_len (h x (by simp))
    have h2 := encs_len (l := l) (fun y hy => h y (by simp [hy]))
    have e : encs (x :: l) = enc x ++ encs l := by simp [encs]
    rw [e, List.length_append, List.length_cons]; omega
end Wr

/-- a slice of integers to be encoded -/
def Things (w : World) (A : Option Addr) (l : List Int) : Prop :=
  ∀ k, (h : k < l.length) → ∃ ad b o, A = some ad ∧ ad.add (k * 5) = ⟨b, o, none⟩ ∧ w.cell? ⟨b, o, none⟩ = some (.int .i64 0) ∧ w.cell? ⟨b, o + 1, none⟩ = some (.int .i64 l[k]) ∧
    w.cell? ⟨b, o + 2, none⟩ = some (.bool false) ∧ w.cell? ⟨b, o + 3, none⟩ = some (.string ByteArray.empty) ∧ w.cell? ⟨b, o + 4, none⟩ = some (.slice none 0 0)
theorem Things.low {w w' : World} {A : Option Addr} {l : List Int} (h : Things w A l) (hb : Below w.heap.size w w') : Things w' A l := fun k hk => by
  obtain ⟨ad, b, o, e, ha, h0, h1, h2, h3, h4⟩ := h k hk
  have up : ∀ {p : Addr} {v : Value}, w.cell? p = some v → w'.cell? p = some v := fun {p v} hc => (hb.cell (World.block_lt_of_cell? w p hc)).trans hc
  exact ⟨ad, b, o, e, ha, up h0, up h1, up h2, up h3, up h4⟩

namespace Wr
theorem rf_sum {acc k : Nat} {x : Int} (hacc : acc < 128 ^ k) (hk : k ≤ 9) (hx : 0 ≤ x ∧ x < 256) (h9 : k = 9 → x = 1) :
    IntKind.u64.wrap ((acc : Int) + IntKind.u64.wrap (x % 128 * ((128 ^ k : Nat) : Int))) = ((acc + (x % 128).toNat * 128 ^ k : Nat) : Int) ∧ acc + (x % 128).toNat * 128 ^ k < 18446744073709551616 := by
  obtain ⟨y, hy⟩ := Int.eq_ofNat_of_zero_le (show 0 ≤ x % 128 by omega)
  have hy1 : y < 128 := by omega
  have hy9 : k = 9 → y = 1 := fun h => by have := h9 h; omega
  rw [hy, Int.toNat_natCast, IntKind.wrap_u64, IntKind.wrap_u64]
  have : k = 0 ∨ k = 1 ∨ k = 2 ∨ k = 3 ∨ k = 4 ∨ k = 5 ∨ k = 6 ∨ k = 7 ∨ k = 8 ∨ k = 9 := by omega
  rcases this with rfl | rfl | rfl | rfl | rfl | rfl | rfl | rfl | rfl | rfl
  · rw [show (128 : Nat) ^ 0 = 1 by decide] at hacc ⊢
    omega
  · rw [show (128 : Nat) ^ 1 = 128 by decide] at hacc ⊢
    omega
  · rw [show (128 : Nat) ^ 2 = 16384 by decide] at hacc ⊢
    omega
  · rw [show (128 : Nat) ^ 3 = 2097152 by decide] at hacc ⊢
    omega
  · rw [show (128 : Nat) ^ 4 = 268435456 by decide] at hacc ⊢
    omega
  · rw [show (128 : Nat) ^ 5 = 34359738368 by decide] at hacc ⊢
    omega
  · rw [show (128 : Nat) ^ 6 = 4398046511104 by decide] at hacc ⊢
    omega
  · rw [show (128 : Nat) ^ 7 = 562949953421312 by decide] at hacc ⊢
    omega
  · rw [show (128 : Nat) ^ 8 = 72057594037927936 by decide] at hacc ⊢
    omega
  · rw [show (128 : Nat) ^ 9 = 9223372036854775808 by decide] at hacc ⊢
    omega
theorem unzz_odd {U : Nat} (h : (U : Int) % 2 = 1) : unzz U = -((U : Int) / 2) - 1 := by unfold unzz; rw [if_pos (by omega)]; omega
theorem unzz_even {U : Nat} (h : ¬ (U : Int) % 2 = 1) : unzz U = (U : Int) / 2 := by unfold unzz; rw [if_neg (by omega)]; omega
end Wr

end Go.Proofs.Ytgpdodhegacndaa
