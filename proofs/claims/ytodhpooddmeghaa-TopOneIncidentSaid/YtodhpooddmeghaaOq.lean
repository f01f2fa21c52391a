/- Layer 28: what is encoded is decoded. Plain law: no program is named here. -/
import Derived.Test.YtodhpooddmeghaaOrD
namespace Go.Proofs.Ytodhpooddmeghaa
set_option linter.unusedSimpArgs false
set_option linter.unusedVariables false
open Go.RowKit

namespace Wr
theorem rs_one {n : Int} (h : I64 n) (l r : List Int) (k : Nat) (hk : rs k ⟨l, 0⟩ = ⟨enc n ++ r, 0⟩) : rdV (rs k ⟨l, 0⟩) = n ∧ rs (k + 1) ⟨l, 0⟩ = ⟨r, 0⟩ := by
  have := rd_enc h r
  exact ⟨by rw [hk]; exact this.2, by show rd (rs k ⟨l, 0⟩) = _; rw [hk]; exact this.1⟩
theorem rs_five {a b c d e : Int} (ha : I64 a) (hb : I64 b) (hc : I64 c) (hd : I64 d) (he : I64 e) (l : List Int) (hl : l = encs [a, b, c, d, e]) :
    rdV (rs 0 ⟨l, 0⟩) = a ∧ rdV (rs 1 ⟨l, 0⟩) = b ∧ rdV (rs 2 ⟨l, 0⟩) = c ∧ rdV (rs 3 ⟨l, 0⟩) = d ∧ rdV (rs 4 ⟨l, 0⟩) = e ∧ fin (rs 5 ⟨l, 0⟩) = 0 := by
  have e0 : rs 0 ⟨l, 0⟩ = ⟨enc a ++ (enc b ++ (enc c ++ (enc d ++ (enc e ++ [])))), 0⟩ := by rw [hl]; simp [rs, encs]
  obtain ⟨h0, e1⟩ := rs_one ha l _ 0 e0
  obtain ⟨h1, e2⟩ := rs_one hb l _ 1 e1
  obtain ⟨h2, e3⟩ := rs_one hc l _ 2 e2
  obtain ⟨h3, e4⟩ := rs_one hd l _ 3 e3
  obtain ⟨h4, e5⟩ := rs_one he l _ 4 e4
  exact ⟨h0, h1, h2, h3, h4, by rw [e5]; rfl⟩
theorem encs_bts (l : List Int) : Bts (encs l) := by
  intro x hx
  obtain ⟨n, _, h⟩ := List.mem_flatMap.1 hx
  exact enc_bts n x h
end Wr
namespace Or
theorem put_bts (o : O) : Wr.Bts (put o) := by
  unfold put; split
  · exact Wr.encs_bts _
  · intro x hx; cases hx
theorem say_bts (s : S) : Wr.Bts (say s) := by
  unfold say; split
  · exact Wr.encs_bts _
  · intro x hx; cases hx
theorem put_len {o : O} (h : O64 o) : (put o).length ≤ 50 := by
  unfold put; split
  · exact Wr.encs_len (l := nums o) (by obtain ⟨a, b, c, d, e⟩ := h; intro x hx; simp [nums] at hx; rcases hx with rfl | rfl | rfl | rfl | rfl <;> assumption)
  · simp
theorem say_len {s : S} (h : S64 s) : (say s).length ≤ 50 := by
  unfold say; split
  · exact Wr.encs_len (l := snums s) (by obtain ⟨a, b, c, d, e⟩ := h; intro x hx; simp [snums] at hx; rcases hx with rfl | rfl | rfl | rfl | rfl <;> assumption)
  · simp
theorem ok_put {o : O} (h : O64 o) (hv : valid o = true) : okO (put o) = true ∧ decO (put o) = o := by
  have e : put o = Wr.encs [o.u, o.e, o.k, o.i, o.n] := by unfold put; rw [hv]; rfl
  obtain ⟨h0, h1, h2, h3, h4, h5⟩ := Wr.rs_five h.1 h.2.1 h.2.2.1 h.2.2.2.1 h.2.2.2.2 (put o) e
  have ho : ofR (put o) = o := by unfold ofR; rw [h0, h1, h2, h3, h4]
  have hk : okO (put o) = true := by unfold okO; rw [h5, ho, hv]; rfl
  exact ⟨hk, by unfold decO; rw [hk, ho]; rfl⟩
theorem ok_say {s : S} (h : S64 s) (hv : fit s = true) : okS (say s) = true ∧ decS (say s) = s := by
  have e : say s = Wr.encs [s.u, s.q, s.s, s.n, s.e] := by unfold say; rw [hv]; rfl
  obtain ⟨h0, h1, h2, h3, h4, h5⟩ := Wr.rs_five h.1 h.2.1 h.2.2.1 h.2.2.2.1 h.2.2.2.2 (say s) e
  have ho : ofS (say s) = s := by unfold ofS; rw [h0, h1, h2, h3, h4]
  have hk : okS (say s) = true := by unfold okS; rw [h5, ho, hv]; rfl
  exact ⟨hk, by unfold decS; rw [hk, ho]; rfl⟩
theorem bad_put {o : O} (hv : valid o = false) : put o = [] ∧ okO (put o) = false ∧ decO (put o) = ⟨0, 0, 0, 0, 0⟩ := by
  have e : put o = [] := by unfold put; rw [hv]; rfl
  have : okO [] = false := by decide +kernel
  exact ⟨e, by rw [e]; exact this, by rw [e]; unfold decO; rw [this]; rfl⟩
theorem bad_say {s : S} (hv : fit s = false) : say s = [] ∧ okS (say s) = false ∧ decS (say s) = ⟨0, 0, 0, 0, 0⟩ := by
  have e : say s = [] := by unfold say; rw [hv]; rfl
  have : okS [] = false := by decide +kernel
  exact ⟨e, by rw [e]; exact this, by rw [e]; unfold decS; rw [this]; rfl⟩
end Or
end Go.Proofs.Ytodhpooddmeghaa
