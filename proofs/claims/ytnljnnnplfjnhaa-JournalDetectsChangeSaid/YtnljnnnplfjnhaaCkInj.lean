/- The checksum's step is injective: plain numbers. -/
import Derived.Test.YtnljnnnplfjnhaaCkMath
namespace Go.Proofs.Ytnljnnnplfjnhaa.Ck
set_option linter.unusedSimpArgs false
set_option linter.unusedVariables false
open Go
theorem xor_l {a b c : Nat} (h : a ^^^ b = a ^^^ c) : b = c := by
  have := congrArg (a ^^^ ·) h
  simpa [← Nat.xor_assoc] using this
theorem xor_r {a b c : Nat} (h : b ^^^ a = c ^^^ a) : b = c := by
  rw [Nat.xor_comm b, Nat.xor_comm c] at h; exact xor_l h
def F (x : Nat) : Nat := (x * 1099511628211 % 18446744073709551616) ^^^ (x * 1099511628211 % 18446744073709551616 / 4294967296)
theorem mul_inj (x y : Nat) (hx : x < 18446744073709551616) (hy : y < 18446744073709551616) (h : x * 1099511628211 % 18446744073709551616 = y * 1099511628211 % 18446744073709551616) : x = y := by
  have key : ∀ z, z < 18446744073709551616 → (z * 1099511628211 % 18446744073709551616) * 14886173955864302971 % 18446744073709551616 = z := by
    intro z hz
    rw [Nat.mod_mul_mod, Nat.mul_assoc]
    rw [show 1099511628211 * 14886173955864302971 = 1 + 18446744073709551616 * 887285111055 by decide +kernel]
    rw [Nat.mul_add, Nat.mul_one, Nat.mul_left_comm, Nat.add_mul_mod_self_left, Nat.mod_eq_of_lt hz]
  rw [← key x hx, ← key y hy, h]
theorem xsh_inj (p q : Nat) (hp : p < 18446744073709551616) (hq : q < 18446744073709551616) (h : p ^^^ (p / 4294967296) = q ^^^ (q / 4294967296)) : p = q := by
  have hi : ∀ z, z < 18446744073709551616 → (z ^^^ (z / 4294967296)) / 4294967296 = z / 4294967296 := by
    intro z hz
    have := Nat.xor_div_two_pow (a := z) (b := z / 4294967296) (n := 32)
    rw [show (2 : Nat) ^ 32 = 4294967296 from rfl] at this
    rw [this, show z / 4294967296 / 4294967296 = 0 by omega, Nat.xor_zero]
  have e : p / 4294967296 = q / 4294967296 := by rw [← hi p hp, ← hi q hq, h]
  rw [e] at h
  exact xor_r h
theorem F_inj (x y : Nat) (hx : x < 18446744073709551616) (hy : y < 18446744073709551616) (h : F x = F y) : x = y :=
  mul_inj x y hx hy (xsh_inj _ _ (Nat.mod_lt _ (by omega)) (Nat.mod_lt _ (by omega)) h)
theorem stepI_nat (s b : Nat) (hs : s < 18446744073709551616) (hb : b < 256) : stepI s b = ((F (s ^^^ b) : Nat) : Int) := by
  have hx : bits BinOp.xor IntKind.u64 (s : Int) (IntKind.u64.wrap (b : Int)) = ((s ^^^ b : Nat) : Int) := by
    rw [wrap_u64_nat b (by omega)]
    exact u64_xor_nat s b hs (by omega)
  unfold stepI
  rw [hx]
  have h1 : IntKind.u64.wrap (((s ^^^ b : Nat) : Int) * 1099511628211) = (((s ^^^ b) * 1099511628211 % 18446744073709551616 : Nat) : Int) := by
    rw [IntKind.wrap_u64]; omega
  rw [h1]
  have h2 : ((((s ^^^ b) * 1099511628211 % 18446744073709551616 : Nat) : Int)) / 4294967296 = (((s ^^^ b) * 1099511628211 % 18446744073709551616 / 4294967296 : Nat) : Int) := by omega
  rw [h2, u64_xor_nat _ _ (Nat.mod_lt _ (by omega)) (by
    have := Nat.mod_lt ((s ^^^ b) * 1099511628211) (y := 18446744073709551616) (by omega)
    omega)]
  rfl
theorem stepI_inj {s s' b b' : Int} (hs : U64 s) (hs' : U64 s') (hb : 0 ≤ b ∧ b < 256) (hb' : 0 ≤ b' ∧ b' < 256) (h : stepI s b = stepI s' b') : s.toNat ^^^ b.toNat = s'.toNat ^^^ b'.toNat := by
  obtain ⟨S, rfl⟩ := Int.eq_ofNat_of_zero_le hs.1
  obtain ⟨S', rfl⟩ := Int.eq_ofNat_of_zero_le hs'.1
  obtain ⟨B, rfl⟩ := Int.eq_ofNat_of_zero_le hb.1
  obtain ⟨B', rfl⟩ := Int.eq_ofNat_of_zero_le hb'.1
  have h1 : S < 18446744073709551616 := by have := hs.2; omega
  have h2 : S' < 18446744073709551616 := by have := hs'.2; omega
  have h3 : B < 256 := by omega
  have h4 : B' < 256 := by omega
  rw [stepI_nat S B h1 h3, stepI_nat S' B' h2 h4] at h
  exact F_inj (S ^^^ B) (S' ^^^ B') (Nat.xor_lt_two_pow (n := 64) h1 (by omega)) (Nat.xor_lt_two_pow (n := 64) h2 (by omega)) (by omega)
theorem stepI_inj_s {s s' b : Int} (hs : U64 s) (hs' : U64 s') (hb : 0 ≤ b ∧ b < 256) (h : stepI s b = stepI s' b) : s = s' := by
  have := xor_r (stepI_inj hs hs' hb hb h)
  have := hs.1; have := hs'.1; omega
theorem stepI_inj_b {s b b' : Int} (hs : U64 s) (hb : 0 ≤ b ∧ b < 256) (hb' : 0 ≤ b' ∧ b' < 256) (h : stepI s b = stepI s b') : b = b' := by
  have := xor_l (stepI_inj hs hs hb hb' h)
  have := hb.1; have := hb'.1; omega
theorem moreI_inj : ∀ (l : List Int) {s s' : Int}, Bts l → U64 s → U64 s' → moreI s l = moreI s' l → s = s' := by
  intro l
  induction l with
  | nil => intro s s' _ _ _ h; exact h
  | cons b l ih =>
    intro s s' hl hs hs' h
    have hb := hl b (by simp)
    exact stepI_inj_s hs hs' hb (ih (fun x hx => hl x (by simp [hx])) (stepI_bd _ _) (stepI_bd _ _) h)
/-- one byte changed -/
theorem moreI_set (l : List Int) (k : Nat) (c : Int) (hk : k < l.length) (hl : Bts l) (hc : 0 ≤ c ∧ c < 256) (hne : c ≠ l[k]) {s : Int} (hs : U64 s) : moreI s (l.set k c) ≠ moreI s l := by
  intro h
  have e1 : l = l.take k ++ l[k] :: l.drop (k + 1) := by rw [← List.drop_eq_getElem_cons hk, List.take_append_drop]
  have e2 : l.set k c = l.take k ++ c :: l.drop (k + 1) := List.set_eq_take_append_cons_drop.trans (if_pos hk)
  rw [e2] at h
  conv at h => rhs; rw [e1]
  rw [moreI_append, moreI_append] at h
  have hm := moreI_bd (l.take k) s hs
  have := moreI_inj (l.drop (k + 1)) (fun x hx => hl x (List.mem_of_mem_drop hx)) (stepI_bd _ _) (stepI_bd _ _) h
  exact hne (stepI_inj_b hm hc (hl _ (List.getElem_mem hk)) this)
theorem xor8_bd (x y : Int) : 0 ≤ bits .xor .u8 x y ∧ bits .xor .u8 x y < 256 := by
  have h := bits_within .xor .u8 x y
  rw [show IntKind.u8.min = 0 from rfl, show IntKind.u8.max = 255 from rfl] at h
  omega
theorem xor8_ne (x y : Int) (hx : 0 ≤ x ∧ x < 256) (hy : 0 ≤ y ∧ y < 256) (h : y ≠ 0) : bits .xor .u8 x y ≠ x := by
  obtain ⟨X, rfl⟩ := Int.eq_ofNat_of_zero_le hx.1
  obtain ⟨Y, rfl⟩ := Int.eq_ofNat_of_zero_le hy.1
  rw [u8_xor_nat X Y (by omega) (by omega)]
  intro h2
  have : X ^^^ Y = X ^^^ 0 := by rw [Nat.xor_zero]; omega
  have := xor_l this
  omega
theorem recI_set (p k : Int) (l : List Int) (j : Nat) (c : Int) (hj : j < l.length) (hl : Bts l) (hc : 0 ≤ c ∧ c < 256) (hne : c ≠ l[j]) : recI p k (l.set j c) ≠ recI p k l := by
  unfold recI
  rw [List.length_set]
  refine moreI_set l j c hj hl hc hne ?_
  unfold addIntI
  exact moreI_bd _ _ (stepI_bd _ _)
end Go.Proofs.Ytnljnnnplfjnhaa.Ck
