/- Layer 5: the encoding of integers as plain data. No program is named here. -/
import Derived.Lib.Zigzag
import Derived.Lib.VarintBits
import Derived.Laws.Bits64
namespace Go.Proofs.Ytgpdodhegacndaa
set_option linter.unusedSimpArgs false
set_option linter.unusedVariables false
namespace Wr

/-- the bytes of a number: seven bits a byte -/
def vint (u : Nat) : List Int := if _h : 128 ≤ u then ((u : Int) % 128 + 128) :: vint (u / 128) else [(u : Int)]
termination_by u
/-- the encoding of an integer -/
def enc (n : Int) : List Int := vint (Lib.zigzag n)
def unzz (u : Nat) : Int := if u % 2 = 1 then -((u / 2 : Nat) : Int) - 1 else ((u / 2 : Nat) : Int)

theorem vint_lt {u : Nat} (h : u < 128) : vint u = [(u : Int)] := by rw [vint, dif_neg (by omega)]
theorem vint_ge {u : Nat} (h : 128 ≤ u) : vint u = ((u : Int) % 128 + 128) :: vint (u / 128) := by rw [vint, dif_pos h]
theorem vint_bts (u : Nat) : ∀ x ∈ vint u, 0 ≤ x ∧ x < 256 := by
  induction u using Nat.strongRecOn with
  | _ u ih =>
    intro x hx
    by_cases h : 128 ≤ u
    · rw [vint_ge h] at hx
      rcases List.mem_cons.1 hx with rfl | hx
      · omega
      · exact ih (u / 128) (by omega) x hx
    · rw [vint_lt (by omega)] at hx
      simp at hx; omega
theorem vint_pos (u : Nat) : 1 ≤ (vint u).length := by
  by_cases h : 128 ≤ u
  · rw [vint_ge h]; simp
  · rw [vint_lt (by omega)]; simp
theorem vint_len : ∀ (k u : Nat), u < 128 ^ (k + 1) → (vint u).length ≤ k + 1
  | 0, u, h => by rw [vint_lt (by simpa using h)]; simp
  | k + 1, u, h => by
    by_cases h2 : 128 ≤ u
    · rw [vint_ge h2, List.length_cons]
      have := vint_len k (u / 128) (by rw [Nat.div_lt_iff_lt_mul (by omega)]; rw [Nat.pow_succ] at h; exact h)
      omega
    · rw [vint_lt (by omega)]; simp
theorem vint_len10 {u : Nat} (h : u < 18446744073709551616) : (vint u).length ≤ 10 := vint_len 9 u (Nat.lt_of_lt_of_le h (by decide))
def I64 (n : Int) : Prop := -9223372036854775808 ≤ n ∧ n ≤ 9223372036854775807
theorem enc_len {n : Int} (h : I64 n) : (enc n).length ≤ 10 := vint_len10 (Lib.zigzag_lt h.1 h.2)
theorem enc_pos (n : Int) : 1 ≤ (enc n).length := vint_pos _
theorem enc_bts (n : Int) : ∀ x ∈ enc n, 0 ≤ x ∧ x < 256 := vint_bts _

/-- the decoder: i bytes have been read, acc is what they say -/
def dec (i : Nat) (acc : Nat) : List Int → Except Int (Nat × List Int)
  | [] => .error 11
  | c :: l => if (9 ≤ i ∧ c ≠ 1) ∨ (0 < i ∧ c = 0) then .error 2
    else if c < 128 then .ok (acc + c.toNat * 128 ^ i, l)
    else dec (i + 1) (acc + (c % 128).toNat * 128 ^ i) l
/-- a reader: the bytes that are left, the first error -/
structure R where
  l : List Int
  e : Int
def rdV (r : R) : Int := if r.e ≠ 0 then 0 else match dec 0 0 r.l with
  | .error _ => 0
  | .ok (u, _) => unzz u
def rd (r : R) : R := if r.e ≠ 0 then r else match dec 0 0 r.l with
  | .error x => ⟨[], x⟩
  | .ok (_, l) => ⟨l, 0⟩
/-- the reference keeps its bytes at an error -/
def rdK (r : R) : R := if r.e ≠ 0 then r else match dec 0 0 r.l with
  | .error x => ⟨r.l, x⟩
  | .ok (_, l) => ⟨l, 0⟩
def fin (r : R) : Int := if r.e ≠ 0 then r.e else if r.l = [] then 0 else 2
/-- two readers that answer alike -/
def Al (r s : R) : Prop := r.e = s.e ∧ (r.e = 0 → r.l = s.l)
theorem Al.refl (r : R) : Al r r := ⟨rfl, fun _ => rfl⟩
theorem Al.v {r s : R} (h : Al r s) : rdV r = rdV s := by
  unfold rdV
  rw [← h.1]
  by_cases h0 : r.e ≠ 0
  · rw [if_pos h0, if_pos h0]
  · rw [if_neg h0, if_neg h0, h.2 (by simpa using h0)]
theorem Al.step {r s : R} (h : Al r s) : Al (rd r) (rdK s) := by
  unfold rd rdK
  by_cases h0 : r.e ≠ 0
  · rw [if_pos h0, if_pos (h.1 ▸ h0)]; exact h
  · rw [if_neg h0, if_neg (h.1 ▸ h0), h.2 (by simpa using h0)]
    cases hd : dec 0 0 s.l with
    | error x =>
      refine ⟨rfl, fun hx => ?_⟩
      have : ∀ (l : List Int) (i acc : Nat), dec i acc l ≠ .error 0 := by
        intro l
        induction l with
        | nil => intro i acc h; simp [dec] at h
        | cons c l ih =>
          intro i acc h
          unfold dec at h
          split at h
          · simp at h
          · split at h
            · cases h
            · exact ih _ _ h
      exact absurd (show dec 0 0 s.l = .error 0 by rw [hd]; exact congrArg _ hx) (this _ _ _)
    | ok p => exact ⟨rfl, fun _ => rfl⟩
theorem Al.fin {r s : R} (h : Al r s) : fin r = fin s := by
  unfold Wr.fin
  rw [← h.1]
  by_cases h0 : r.e ≠ 0
  · rw [if_pos h0, if_pos h0]
  · rw [if_neg h0, if_neg h0, h.2 (by simpa using h0)]
theorem rd_e0 {r : R} (h : r.e = 0) {u : Nat} {l : List Int} (hd : dec 0 0 r.l = .ok (u, l)) : rd r = ⟨l, 0⟩ ∧ rdV r = unzz u ∧ rdK r = ⟨l, 0⟩ := by
  unfold rd rdV rdK
  rw [if_neg (by simp [h]), if_neg (by simp [h]), if_neg (by simp [h]), hd]
  exact ⟨rfl, rfl, rfl⟩
theorem rd_e1 {r : R} (h : r.e = 0) {x : Int} (hd : dec 0 0 r.l = .error x) : rd r = ⟨[], x⟩ ∧ rdV r = 0 ∧ rdK r = ⟨r.l, x⟩ := by
  unfold rd rdV rdK
  rw [if_neg (by simp [h]), if_neg (by simp [h]), if_neg (by simp [h]), hd]
  exact ⟨rfl, rfl, rfl⟩
theorem rd_bad {r : R} (h : r.e ≠ 0) : rd r = r ∧ rdV r = 0 ∧ rdK r = r := by
  unfold rd rdV rdK
  rw [if_pos h, if_pos h, if_pos h]; exact ⟨rfl, rfl, rfl⟩

/-! ### one byte of the decoder -/
theorem dec_nil (i acc : Nat) : dec i acc [] = .error 11 := rfl
theorem dec_bad {i acc : Nat} {c : Int} {l : List Int} (h : (9 ≤ i ∧ c ≠ 1) ∨ (0 < i ∧ c = 0)) : dec i acc (c :: l) = .error 2 := by rw [dec, if_pos h]
theorem dec_end {i acc : Nat} {c : Int} {l : List Int} (h : ¬ ((9 ≤ i ∧ c ≠ 1) ∨ (0 < i ∧ c = 0))) (hc : c < 128) : dec i acc (c :: l) = .ok (acc + c.toNat * 128 ^ i, l) := by rw [dec, if_neg h, if_pos hc]
theorem dec_on {i acc : Nat} {c : Int} {l : List Int} (h : ¬ ((9 ≤ i ∧ c ≠ 1) ∨ (0 < i ∧ c = 0))) (hc : ¬ c < 128) : dec i acc (c :: l) = dec (i + 1) (acc + (c % 128).toNat * 128 ^ i) l := by rw [dec, if_neg h, if_neg hc]
theorem dec_lt : ∀ (l : List Int) (i acc u : Nat) (r : List Int), (∀ x ∈ l, 0 ≤ x ∧ x < 256) → i ≤ 9 → acc < 128 ^ i → dec i acc l = .ok (u, r) → u < 18446744073709551616
  | [], _, _, _, _, _, _, _, h => by simp [dec] at h
  | c :: l, i, acc, u, r, hb, hi, hacc, h => by
    have hc := hb c (by simp)
    by_cases h1 : (9 ≤ i ∧ c ≠ 1) ∨ (0 < i ∧ c = 0)
    · rw [dec_bad h1] at h; cases h
    · have hp : (128 : Nat) ^ i ≤ 128 ^ 9 := Nat.pow_le_pow_right (by omega) hi
      by_cases h2 : c < 128
      · rw [dec_end h1 h2] at h
        injection h with h; injection h with h _
        have e9 : (128 : Nat) ^ 9 = 9223372036854775808 := by decide
        by_cases h9 : i = 9
        · subst h9
          have hc1 : c = 1 := by omega
          subst hc1
          have : (1 : Int).toNat = 1 := rfl
          rw [this] at h; omega
        · have hp8 : (128 : Nat) ^ i ≤ 128 ^ 8 := Nat.pow_le_pow_right (by omega) (by omega)
          have e8 : (128 : Nat) ^ 8 = 72057594037927936 := by decide
          have hm : c.toNat * 128 ^ i ≤ 127 * 128 ^ i := Nat.mul_le_mul_right _ (by omega)
          omega
      · rw [dec_on h1 h2] at h
        have hi8 : i ≤ 8 := by omega
        refine dec_lt l (i + 1) _ u r (fun x hx => hb x (by simp [hx])) (by omega) ?_ h
        rw [Nat.pow_succ]
        have hm : (c % 128).toNat * 128 ^ i ≤ 127 * 128 ^ i := Nat.mul_le_mul_right _ (by omega)
        omega
/-- decoding what was encoded -/
theorem dec_vint : ∀ (u i acc : Nat) (l : List Int), u * 128 ^ i < 18446744073709551616 → (0 < i → 0 < u) → i ≤ 9 → dec i acc (vint u ++ l) = .ok (acc + u * 128 ^ i, l) := by
  intro u
  induction u using Nat.strongRecOn with
  | _ u ih =>
    intro i acc l hu h0 hi
    have h9 : i = 9 → u < 2 := by
      intro h; subst h
      have e9 : (128 : Nat) ^ 9 = 9223372036854775808 := by decide
      rw [e9] at hu; omega
    by_cases h : 128 ≤ u
    · rw [vint_ge h, List.cons_append, dec_on (by rintro (⟨a, _⟩ | ⟨_, a⟩); have := h9 (by omega); omega; omega) (by omega)]
      have e : (((u : Int) % 128 + 128) % 128).toNat = u % 128 := by omega
      have hd : u = u / 128 * 128 + u % 128 := by omega
      have e2 : u * 128 ^ i = u / 128 * 128 ^ (i + 1) + u % 128 * 128 ^ i := by
        rw [Nat.pow_succ, Nat.mul_comm (128 ^ i) 128, ← Nat.mul_assoc, ← Nat.add_mul, ← hd]
      rw [e, ih (u / 128) (by omega) (i + 1) _ l (by omega) (by omega) (by rcases Nat.lt_or_ge i 9 with h | h; omega; have := h9 (by omega); omega), e2]
      congr 2; omega
    · rw [vint_lt (by omega), List.cons_append, List.nil_append, dec_end (by rintro (⟨a, b⟩ | ⟨a, b⟩); have := h9 (by omega); have := h0 (by omega); omega; have := h0 (by omega); omega) (by omega)]
      simp
theorem unzz_zz {n : Int} : unzz (Lib.zigzag n) = n := by
  unfold unzz Lib.zigzag
  by_cases h : 0 ≤ n
  · rw [if_pos h, if_neg (by omega)]; omega
  · rw [if_neg h, if_pos (by omega)]; omega
theorem dec_enc {n : Int} (h : I64 n) (l : List Int) : dec 0 0 (enc n ++ l) = .ok (Lib.zigzag n, l) := by
  have := dec_vint (Lib.zigzag n) 0 0 l (by simpa using Lib.zigzag_lt h.1 h.2) (by omega) (by omega)
  simpa [enc] using this
/-- reading what was written -/
theorem rd_enc {n : Int} (h : I64 n) (l : List Int) : rd ⟨enc n ++ l, 0⟩ = ⟨l, 0⟩ ∧ rdV ⟨enc n ++ l, 0⟩ = n := by
  have := rd_e0 (r := ⟨enc n ++ l, 0⟩) rfl (dec_enc h l)
  exact ⟨this.1, by rw [this.2.1, unzz_zz]⟩
theorem unzz_i64 {u : Nat} (h : u < 18446744073709551616) : I64 (unzz u) := by unfold unzz I64; split <;> omega
theorem rdV_i64 {r : R} (hb : ∀ x ∈ r.l, 0 ≤ x ∧ x < 256) : I64 (rdV r) := by
  unfold rdV
  split
  · unfold I64; omega
  · split
    · unfold I64; omega
    · rename_i u l hd; exact unzz_i64 (dec_lt r.l 0 0 u l hb (by omega) (by decide) hd)
theorem dec_suffix : ∀ (l : List Int) (i acc u : Nat) (r : List Int), dec i acc l = .ok (u, r) → ∃ p, l = p ++ r ∧ 1 ≤ p.length
  | [], _, _, _, _, h => by simp [dec] at h
  | c :: l, i, acc, u, r, h => by
    by_cases h1 : (9 ≤ i ∧ c ≠ 1) ∨ (0 < i ∧ c = 0)
    · rw [dec_bad h1] at h; cases h
    · by_cases h2 : c < 128
      · rw [dec_end h1 h2] at h
        injection h with h; injection h with _ h
        exact ⟨[c], by rw [h]; rfl, by simp⟩
      · rw [dec_on h1 h2] at h
        obtain ⟨p, e, _⟩ := dec_suffix l _ _ u r h
        exact ⟨c :: p, by rw [e]; rfl, by simp⟩
theorem rd_bts {r : R} (hb : ∀ x ∈ r.l, 0 ≤ x ∧ x < 256) : ∀ x ∈ (rd r).l, 0 ≤ x ∧ x < 256 := by
  unfold rd
  split
  · exact hb
  · split
    · intro x hx; simp at hx
    · rename_i u l hd
      obtain ⟨p, e, _⟩ := dec_suffix _ _ _ _ _ hd
      intro x hx; exact hb x (by rw [e]; simp [hx])
theorem rdK_bts {r : R} (hb : ∀ x ∈ r.l, 0 ≤ x ∧ x < 256) : ∀ x ∈ (rdK r).l, 0 ≤ x ∧ x < 256 := by
  unfold rdK
  split
  · exact hb
  · split
    · exact hb
    · rename_i u l hd
      obtain ⟨p, e, _⟩ := dec_suffix _ _ _ _ _ hd
      intro x hx; exact hb x (by rw [e]; simp [hx])
theorem rd_len {r : R} : (rd r).l.length ≤ r.l.length ∧ (rdK r).l.length ≤ r.l.length := by
  unfold rd rdK
  split
  · exact ⟨Nat.le_refl _, Nat.le_refl _⟩
  · split
    · exact ⟨by simp, Nat.le_refl _⟩
    · rename_i u l hd
      obtain ⟨p, e, _⟩ := dec_suffix _ _ _ _ _ hd
      constructor <;> (show l.length ≤ _; rw [e]; simp)

end Wr
end Go.Proofs.Ytgpdodhegacndaa
