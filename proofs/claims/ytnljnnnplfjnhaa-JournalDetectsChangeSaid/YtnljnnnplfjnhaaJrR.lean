/- Layer 20: what is left after a power failure; what a changed byte does. No program is named here. -/
import Derived.Test.YtnljnnnplfjnhaaJrQ
import Derived.Test.YtnljnnnplfjnhaaCkInj
namespace Go.Proofs.Ytnljnnnplfjnhaa
set_option linter.unusedSimpArgs false
set_option linter.unusedVariables false
open Go.RowKit
namespace Jr
theorem one_cons (s : Int) (r : R) (t : List Int) : one s r ++ t = Wr.enc (r.b.length : Nat) ++ (r.k :: (r.b ++ (Ck.bytesI (next s r) ++ t))) := by unfold one; simp
/-- two texts that begin with the same length: what follows -/
theorem enc_split {n m : Nat} {a b : List Int} (hn : n ≤ 8192) (hm : m ≤ 8192) (h : Wr.enc (n : Nat) ++ a = Wr.enc (m : Nat) ++ b) : n = m ∧ a = b := by
  have h1 := Wr.dec_enc (n := (n : Nat)) (by unfold Wr.I64; omega) a
  have h2 := Wr.dec_enc (n := (m : Nat)) (by unfold Wr.I64; omega) b
  rw [h, h2] at h1
  injection h1 with h1; injection h1 with e1 e2
  have u1 := Wr.unzz_zz (n := (n : Nat))
  have u2 := Wr.unzz_zz (n := (m : Nat))
  rw [← e1, u2] at u1
  exact ⟨by omega, e2.symm⟩
theorem head_eq {s : Int} {r r' : R} {t : List Int} (hr : r.b.length ≤ 8192) (hr' : r'.b.length ≤ 8192) (h : (one s r').take ((one s r').length - 1) = (one s r ++ t).take ((one s r').length - 1)) (hl : (one s r').length ≤ (one s r ++ t).length) : r' = r := by
  have e0 : one s r ++ t = (one s r').take ((one s r').length - 1) ++ (one s r ++ t).drop ((one s r').length - 1) := by rw [h, List.take_append_drop]
  have e1 : (one s r').take ((one s r').length - 1) = Wr.enc (r'.b.length : Nat) ++ (r'.k :: (r'.b ++ (Ck.bytesI (next s r')).take 7)) := by
    have hl1 := one_len s r'
    have hx : one s r' = (Wr.enc (r'.b.length : Nat) ++ (r'.k :: (r'.b ++ (Ck.bytesI (next s r')).take 7))) ++ (Ck.bytesI (next s r')).drop 7 := by
      have := List.take_append_drop 7 (Ck.bytesI (next s r'))
      conv => lhs; unfold one; rw [← this]
      simp
    conv => lhs; arg 2; rw [hx]
    rw [List.take_left']
    simp only [List.length_append, List.length_cons, List.length_take, Ck.bytesI_length]
    omega
  rw [e1, one_cons, List.append_assoc] at e0
  obtain ⟨h1, h2⟩ := enc_split hr hr' e0
  rw [List.cons_append] at h2
  injection h2 with h3 h4
  rw [List.append_assoc] at h4
  have h5 := (List.append_inj h4 h1).1
  cases r; cases r'
  simp at h3 h5
  rw [h3, h5]
theorem Val.tail {s : Int} {b : List Int} {r : R} {M : List R} {m : Nat} (hv : Val s b (r :: M) m) : Val (next s r) (b.drop (one s r).length) M (m - (one s r).length) ∧ (one s r).length ≤ m ∧ b.take (one s r).length = one s r := by
  have hl := congrArg List.length hv.pre
  rw [List.length_take, Nat.min_eq_left hv.len] at hl
  have hle : (one s r).length ≤ m := by rw [hl]; simp [encs]
  have htk : b.take (one s r).length = one s r := by
    have := congrArg (List.take (one s r).length) hv.pre
    rw [List.take_take, Nat.min_eq_left hle] at this
    rw [this]; simp [encs]
  refine ⟨⟨by rw [List.length_drop]; have := hv.len; omega, ?_, fun x hx => hv.ok x (by simp [hx]), ?_⟩, hle, htk⟩
  · have := congrArg (List.drop (one s r).length) hv.pre
    rw [List.drop_take] at this
    rw [this]; simp [encs]
  · rw [List.drop_drop, show (one s r).length + (m - (one s r).length) = m by omega]; exact hv.stop
/-- a file that was cut, and whose last byte may have been changed, holds a prefix of the records -/
theorem near_prefix : ∀ (M R_ : List R) (s : Int) (D : List Int) (n : Nat), (∀ r ∈ R_, r.ok ∧ r.b.length ≤ 8192) → D.length ≤ (encs s R_).length → D.take (D.length - 1) = (encs s R_).take (D.length - 1) → Val s D M n → ∃ j, j ≤ R_.length ∧ M = R_.take j
  | [], R_, s, D, n, _, _, _, _ => ⟨0, Nat.zero_le _, rfl⟩
  | r' :: M, [], s, D, n, _, hl, _, hv => by
    exfalso
    obtain ⟨_, h1, h2⟩ := hv.tail
    have h3 := hv.len
    have h4 := one_pos s r'
    simp only [encs, List.length_nil] at hl
    omega
  | r' :: M, r :: R_, s, D, n, hok, hl, hn, hv => by
    obtain ⟨h1, h2, h3⟩ := hv.tail
    have h4 := hv.len
    have h5 := one_pos s r'
    have hr := hok r (by simp)
    have hr' := hv.ok r' (by simp)
    have e : r' = r := by
      refine head_eq (s := s) (t := encs (next s r) R_) hr.2 hr'.2 ?_ ?_
      · have e1 : (D.take (D.length - 1)).take ((one s r').length - 1) = ((encs s (r :: R_)).take (D.length - 1)).take ((one s r').length - 1) := by rw [hn]
        rw [List.take_take, List.take_take, Nat.min_eq_left (by omega)] at e1
        have e2 : (D.take (one s r').length).take ((one s r').length - 1) = (one s r').take ((one s r').length - 1) := by rw [h3]
        rw [List.take_take, Nat.min_eq_left (by omega)] at e2
        rw [← e2, e1]; rfl
      · show (one s r').length ≤ (encs s (r :: R_)).length
        omega
    subst e
    have hE : (encs s (r' :: R_)).drop (one s r').length = encs (next s r') R_ := by simp [encs]
    have hEl : (encs s (r' :: R_)).length = (one s r').length + (encs (next s r') R_).length := by simp [encs]
    obtain ⟨j, hj, ej⟩ := near_prefix M R_ (next s r') (D.drop (one s r').length) _ (fun x hx => hok x (by simp [hx])) (by rw [List.length_drop]; omega) (by
      have := congrArg (List.drop (one s r').length) hn
      rw [List.drop_take, List.drop_take, hE] at this
      rw [List.length_drop, show D.length - (one s r').length - 1 = D.length - 1 - (one s r').length by omega]
      exact this) h1
    exact ⟨j + 1, by simp; omega, by rw [ej]; rfl⟩
/-- what was durable is still there -/
theorem near_keeps {R_ : List R} {s : Int} {D : List Int} {n i j : Nat} (hok : ∀ r ∈ R_, r.ok ∧ r.b.length ≤ 8192) (hi : i ≤ R_.length) (hj : j ≤ R_.length) (hD : D.take (encs s (R_.take i)).length = encs s (R_.take i)) (hv : Val s D (R_.take j) n) : i ≤ j := by
  refine Nat.le_of_not_lt fun hlt => ?_
  have hjl : j < R_.length := by omega
  have hn : n = (encs s (R_.take j)).length := by
    have := congrArg List.length hv.pre
    rw [List.length_take, Nat.min_eq_left hv.len] at this; exact this
  have hsp : R_.take i = R_.take j ++ (R_[j] :: ((R_.take i).drop (j + 1))) := by
    have h1 : (R_.take i).take j = R_.take j := by rw [List.take_take, Nat.min_eq_left (by omega)]
    have h2 : j < (R_.take i).length := by rw [List.length_take]; omega
    conv => lhs; rw [← List.take_append_drop j (R_.take i), h1, List.drop_eq_getElem_cons h2]
    rw [List.getElem_take]
  have hst := hv.stop
  have hDs : D = encs s (R_.take i) ++ D.drop (encs s (R_.take i)).length := by
    conv => lhs; rw [← List.take_append_drop (encs s (R_.take i)).length D, hD]
  rw [hDs, hsp, encs_append, List.append_assoc, hn, List.drop_left] at hst
  simp only [encs, List.append_assoc] at hst
  rw [first_one (hok _ (List.getElem_mem hjl)).2] at hst
  cases hst
theorem val_self {s : Int} {D : List Int} {M : List R} {n : Nat} (h : Val s D M n) : Val s (D.take n) M n :=
  ⟨by rw [List.length_take]; have := h.len; omega, by rw [List.take_take, Nat.min_self]; exact h.pre, h.ok, by rw [List.drop_of_length_le (by rw [List.length_take]; omega)]; exact first_nil _⟩
theorem encs_take_le (R_ : List R) (s : Int) (i : Nat) : (encs s (R_.take i)).length ≤ (encs s R_).length := by
  have := encs_append (R_.take i) (R_.drop i) s
  rw [List.take_append_drop] at this
  rw [this, List.length_append]; omega
end Jr
namespace St
theorem xorLast_bts {l : List Int} (h : Ck.Bts l) (m : Int) : Ck.Bts (xorLast l m) := fun x hx => by
  unfold xorLast at hx
  rcases List.mem_append.1 hx with h1 | h1
  · exact h x (List.mem_of_mem_take h1)
  · obtain ⟨y, _, rfl⟩ := List.mem_map.1 h1
    exact Ck.xor8_bd _ _
theorem cut_near (E : List Int) (N : Nat) (c m : Int) (hN : N ≤ E.length) (hE : Ck.Bts E) : ∃ D, cut ⟨E, N, false⟩ c m = ⟨D, D.length, true⟩ ∧ D.length ≤ E.length ∧ N ≤ D.length ∧ D.take (D.length - 1) = E.take (D.length - 1) ∧ D.take N = E.take N ∧ Ck.Bts D := by
  have hk : kept ⟨E, N, false⟩ c ≤ E.length ∧ N ≤ kept ⟨E, N, false⟩ c := by unfold kept; simp only; omega
  have hl : (E.take (kept ⟨E, N, false⟩ c)).length = kept ⟨E, N, false⟩ c := by rw [List.length_take]; omega
  by_cases hlt : N < kept ⟨E, N, false⟩ c
  · refine ⟨xorLast (E.take (kept ⟨E, N, false⟩ c)) m, ?_, by rw [xorLast_length, hl]; exact hk.1, by rw [xorLast_length, hl]; exact hk.2, ?_, ?_, xorLast_bts (fun x hx => hE x (List.mem_of_mem_take hx)) m⟩
    · unfold cut
      rw [if_neg (fun h => by cases h), if_pos hlt, xorLast_length, hl]
    · rw [xorLast_length, hl]
      unfold xorLast
      rw [hl, List.take_left' (by rw [List.length_take, hl]; omega), List.take_take, Nat.min_eq_left (by omega)]
    · unfold xorLast
      rw [hl, List.take_append_of_le_length (by rw [List.length_take, hl]; omega), List.take_take, List.take_take, Nat.min_eq_left (by omega), Nat.min_eq_left (by omega)]
  · refine ⟨E.take (kept ⟨E, N, false⟩ c), ?_, by rw [hl]; exact hk.1, by rw [hl]; exact hk.2, ?_, ?_, fun x hx => hE x (List.mem_of_mem_take hx)⟩
    · unfold cut
      rw [if_neg (fun h => by cases h), if_neg hlt, hl]
    · rw [hl, List.take_take, Nat.min_eq_left (by omega)]
    · rw [List.take_take, Nat.min_eq_left (by omega)]
end St
end Go.Proofs.Ytnljnnnplfjnhaa
