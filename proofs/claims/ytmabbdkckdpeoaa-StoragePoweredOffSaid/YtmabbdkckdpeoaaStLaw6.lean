/- Layer 19: StoragePoweredOff walked. -/
import Derived.Test.YtmabbdkckdpeoaaStLaw5
import Derived.Test.YtmabbdkckdpeoaaMem
namespace Go.Proofs.Ytmabbdkckdpeoaa
set_option linter.unusedSimpArgs false
set_option linter.unusedVariables false
open Go.RowKit

theorem slAct : SlT Try.prog 34 39 4 48 := SlT.of (by kernel_rfl) (by kernel_rfl) (by omega)

/-- the cells of a list of operations -/
def ActsV (w : World) (vs : List Value) (l : List St.Act) : Prop :=
  vs.length = l.length * 4 ∧ ∀ k, (h : k < l.length) → ∃ A' c', vs[k * 4]? = some (.int .u8 l[k].kind) ∧ vs[k * 4 + 1]? = some (.slice A' l[k].b.length c') ∧
    vs[k * 4 + 2]? = some (.int .i64 l[k].n) ∧ vs[k * 4 + 3]? = some (.int .u8 l[k].m) ∧
    ActV w (.agg #[.int .u8 l[k].kind, .slice A' l[k].b.length c', .int .i64 l[k].n, .int .u8 l[k].m]) l[k]
theorem four (j : Nat) : ∃ k r, j = k * 4 + r ∧ r < 4 := ⟨j / 4, j % 4, by omega, by omega⟩
theorem Acts.cells {w : World} {A : Option Addr} {l : List St.Act} (h : Acts w A l) : ∃ vs, Rd w A vs ∧ ActsV w vs l := by
  by_cases hl : l.length = 0
  · exact ⟨[], Rd.nil _ _, by simp [hl], fun k hk => by omega⟩
  · obtain ⟨ad, _, _, _, _, hA, _⟩ := h 0 (by omega)
    subst hA
    have cell : ∀ k r, (hk : k < l.length) → ∀ b o v, ad.add (k * 4) = ⟨b, o, none⟩ → w.cell? ⟨b, o + r, none⟩ = some v → w.cell? (ad.add (k * 4 + r)) = some v := by
      intro k r hk b o v ha hv
      rw [← add_of_add, ha]
      by_cases h0 : r = 0
      · subst h0; simpa [Addr.add] using hv
      · simpa [Addr.add, h0] using hv
    have get : ∀ j, j < l.length * 4 → ∀ v, w.cell? (ad.add j) = some v → ((List.range (l.length * 4)).map fun j => (w.cell? (ad.add j)).getD (.bool false))[j]? = some v := by
      intro j hj v hv
      rw [List.getElem?_map, List.getElem?_range hj, Option.map_some, hv]; rfl
    have all : ∀ j, j < l.length * 4 → ∃ v, w.cell? (ad.add j) = some v := by
      intro j hj
      obtain ⟨k, r, rfl, hr⟩ := four j
      have hk : k < l.length := by omega
      obtain ⟨ad', b, o, A', c', e, ha, h0, h1, h2, h3, _⟩ := h k hk
      injection e with e; subst e
      have : r = 0 ∨ r = 1 ∨ r = 2 ∨ r = 3 := by omega
      rcases this with rfl | rfl | rfl | rfl
      · exact ⟨_, cell k 0 hk b o _ ha h0⟩
      · exact ⟨_, cell k 1 hk b o _ ha h1⟩
      · exact ⟨_, cell k 2 hk b o _ ha h2⟩
      · exact ⟨_, cell k 3 hk b o _ ha h3⟩
    refine ⟨(List.range (l.length * 4)).map fun j => (w.cell? (ad.add j)).getD (.bool false), fun j v hj => ?_, by simp, fun k hk => ?_⟩
    · have hlt : j < l.length * 4 := by have := (List.getElem?_eq_some_iff.1 hj).1; simpa using this
      obtain ⟨u, hu⟩ := all j hlt
      have := get j hlt u hu
      rw [this] at hj
      injection hj with hj; subst hj
      exact ⟨ad, rfl, hu⟩
    · obtain ⟨ad', b, o, A', c', e, ha, h0, h1, h2, h3, hv⟩ := h k hk
      injection e with e; subst e
      exact ⟨A', c', get _ (by omega) _ (cell k 0 hk b o _ ha h0), get _ (by omega) _ (cell k 1 hk b o _ ha h1), get _ (by omega) _ (cell k 2 hk b o _ ha h2), get _ (by omega) _ (cell k 3 hk b o _ ha h3), hv⟩
theorem ActsV.one {w : World} {vs : List Value} {l : List St.Act} (h : ActsV w vs l) : ∀ u ∈ vs, u.oneCell' = true := by
  intro u hu
  obtain ⟨j, hj, e⟩ := List.mem_iff_getElem.1 hu
  obtain ⟨k, r, rfl, hr⟩ := four j
  have hk : k < l.length := by have := h.1; omega
  obtain ⟨A', c', h0, h1, h2, h3, _⟩ := h.2 k hk
  have hu' : vs[k * 4 + r]? = some u := by rw [List.getElem?_eq_getElem hj, e]
  have : r = 0 ∨ r = 1 ∨ r = 2 ∨ r = 3 := by omega
  rcases this with rfl | rfl | rfl | rfl
  · rw [Nat.add_zero, h0] at hu'; injection hu' with e; subst e; rfl
  · rw [h1] at hu'; injection hu' with e; subst e; rfl
  · rw [h2] at hu'; injection hu' with e; subst e; rfl
  · rw [h3] at hu'; injection hu' with e; subst e; rfl
theorem ActsV.low {w w' : World} {vs : List Value} {l : List St.Act} (h : ActsV w vs l) (hb : Below w.heap.size w w') : ActsV w' vs l :=
  ⟨h.1, fun k hk => by obtain ⟨A', c', h0, h1, h2, h3, hv⟩ := h.2 k hk; exact ⟨A', c', h0, h1, h2, h3, hv.low hb⟩⟩
theorem ActsV.acts {w : World} {g : Nat} {vs : List Value} {l : List St.Act} (h : ActsV w vs l) (hr : Rd w (some ⟨g, 0, none⟩) vs) : Acts w (some ⟨g, 0, none⟩) l := fun k hk => by
  obtain ⟨A', c', h0, h1, h2, h3, hv⟩ := h.2 k hk
  have cell : ∀ j v, vs[j]? = some v → w.cell? ⟨g, j, none⟩ = some v := fun j v hj => by
    obtain ⟨ad, e, hc⟩ := hr j v hj
    injection e with e; subst e
    by_cases h0 : j = 0
    · subst h0; simpa [Addr.add] using hc
    · simpa [Addr.add, h0] using hc
  refine ⟨⟨g, 0, none⟩, g, k * 4, A', c', rfl, ?_, cell _ _ h0, cell _ _ h1, cell _ _ h2, cell _ _ h3, hv⟩
  by_cases h0 : k = 0
  · subst h0; simp [Addr.add]
  · have hk4 : ¬ k * 4 = 0 := by omega
    simp [Addr.add, hk4]
theorem ActsV.snoc {w : World} {vs : List Value} {l : List St.Act} {A' : Option Addr} {c' : Nat} {a : St.Act} (h : ActsV w vs l) (ha : ActV w (.agg #[.int .u8 a.kind, .slice A' a.b.length c', .int .i64 a.n, .int .u8 a.m]) a) :
    ActsV w (vs ++ [.int .u8 a.kind, .slice A' a.b.length c', .int .i64 a.n, .int .u8 a.m]) (l ++ [a]) := by
  refine ⟨by simp [h.1]; omega, fun k hk => ?_⟩
  rw [List.length_append, List.length_singleton] at hk
  by_cases hlt : k < l.length
  · obtain ⟨B', d', h0, h1, h2, h3, hv⟩ := h.2 k hlt
    have hg : (l ++ [a])[k]'(by simp; omega) = l[k] := List.getElem_append_left hlt
    rw [hg]
    have := h.1
    exact ⟨B', d', by rw [List.getElem?_append_left (by omega)]; exact h0, by rw [List.getElem?_append_left (by omega)]; exact h1, by rw [List.getElem?_append_left (by omega)]; exact h2, by rw [List.getElem?_append_left (by omega)]; exact h3, hv⟩
  · have hke : k = l.length := by omega
    subst hke
    have hg : (l ++ [a])[l.length]'(by simp) = a := by simp
    rw [hg]
    have := h.1
    exact ⟨A', c', by rw [List.getElem?_append_right (by omega), this]; simp, by rw [List.getElem?_append_right (by omega), this, show l.length * 4 + 1 - l.length * 4 = 1 by omega]; rfl, by rw [List.getElem?_append_right (by omega), this, show l.length * 4 + 2 - l.length * 4 = 2 by omega]; rfl, by rw [List.getElem?_append_right (by omega), this, show l.length * 4 + 3 - l.length * 4 = 3 by omega]; rfl, ha⟩
namespace St
theorem off_write (t : T) (b : List Int) (h : t.off = true) : write t b = t ∧ writeE t b = 7 := by unfold write writeE; rw [h]; exact ⟨rfl, rfl⟩
theorem off_sync (t : T) (h : t.off = true) : sync t = t ∧ syncE t = 7 := by unfold sync syncE; rw [h]; exact ⟨rfl, rfl⟩
theorem off_short (t : T) (h : t.off = true) : short t 0 = t ∧ shortE t 0 = 7 := by
  have h0 : (0 : Int) ≤ 0 ∧ (0 : Int) ≤ t.data.length := ⟨by omega, by omega⟩
  unfold short shortE; rw [if_pos h0, if_pos h0, h]; exact ⟨rfl, rfl⟩
end St
end Go.Proofs.Ytmabbdkckdpeoaa
