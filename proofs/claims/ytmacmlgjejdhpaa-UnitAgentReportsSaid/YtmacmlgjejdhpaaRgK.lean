/- Layer 9: the program's graph, and the example that the laws check first. -/
import Derived.Test.YtmacmlgjejdhpaaRgJ
namespace Go.Proofs.Ytmacmlgjejdhpaa
set_option linter.unusedSimpArgs false
set_option linter.unusedVariables false
open Go.RowKit

namespace Rg
def Ed.re (e : Ed) : Re := ⟨e.f, e.t, e.m⟩
theorem re_cells (E : List Ed) : (E.map Ed.re).flatMap Re.cells = E.flatMap Ed.cells := by rw [List.flatMap_map]; rfl
/-- what a small valid graph is -/
structure Net (N : Nat) (E : List Ed) : Prop where
  ok : EOk N E
  n : 1 ≤ N ∧ N ≤ 12
  e : E.length ≤ 40
  m : ∀ e ∈ E, 1 ≤ e.m ∧ (e.m ≤ 1048576 ∨ e.m = 4611686018427387904)
theorem Net.right {N : Nat} {E : List Ed} (h : Net N E) : Right N (E.map Ed.re) :=
  ⟨by have := h.n; omega, by rw [List.length_map]; exact h.e, fun e he => by
    obtain ⟨x, hx, rfl⟩ := List.mem_map.1 he
    have h1 := h.ok x hx; have h2 := h.m x hx
    show (0 ≤ (x.f : Int) ∧ (x.f : Int) < N) ∧ (0 ≤ (x.t : Int) ∧ (x.t : Int) < N) ∧ 1 ≤ x.m ∧ _
    exact ⟨by omega, by omega, h2⟩⟩
theorem right_net {N : Int} {R : List Re} (h : Right N R) : ∃ (M : Nat) (E : List Ed), N = M ∧ R = E.map Ed.re ∧ Net M E := by
  refine ⟨N.toNat, R.map fun e => ⟨e.f.toNat, e.t.toNat, e.m⟩, by have := h.1; omega, ?_, ?_⟩
  · rw [List.map_map]
    refine (List.map_id R).symm.trans (List.map_congr_left fun e he => ?_)
    have := h.2.2 e he
    obtain ⟨h1, h2, _⟩ := this
    show e = ⟨((e.f.toNat : Nat) : Int), ((e.t.toNat : Nat) : Int), e.m⟩
    rw [Int.toNat_of_nonneg h1.1, Int.toNat_of_nonneg h2.1]
  · refine ⟨fun e he => ?_, by have := h.1; omega, by rw [List.length_map]; exact h.2.1, fun e he => ?_⟩
    · obtain ⟨x, hx, rfl⟩ := List.mem_map.1 he
      have := h.2.2 x hx
      obtain ⟨h1, h2, _⟩ := this
      show x.f.toNat < N.toNat ∧ x.t.toNat < N.toNat
      omega
    · obtain ⟨x, hx, rfl⟩ := List.mem_map.1 he
      exact (h.2.2 x hx).2.2
theorem some_of {A : Option Addr} {a b : Nat} (h : A.map (·.block) = some a ∨ A.map (·.block) = some b) : ∃ ad, A = some ad := by
  cases A with
  | none => rcases h with h | h <;> cases h
  | some ad => exact ⟨ad, rfl⟩
theorem Net.swap {N : Nat} {E : List Ed} (h : Net N E) : Net N (E.map Ed.swap) := ⟨swap_ok h.ok, h.n, by rw [List.length_map]; exact h.e, fun e he => by
  obtain ⟨x, hx, rfl⟩ := List.mem_map.1 he; exact h.m x hx⟩
end Rg
namespace Rg
abbrev g3 : List Ed := [⟨0, 1, 5⟩, ⟨1, 2, 5⟩, ⟨0, 2, 10⟩]
theorem g3_net : Net 3 g3 := ⟨by unfold EOk; decide, by decide, by decide, by decide⟩
theorem own_cellN {w : World} {base e n c g : Nat} {l : List Nat} (h : w.ownsRow base e 1 (.slice (some ⟨g, 0, none⟩) n c) n (ints l)) (i : Nat) (hi : i < l.length) : w.cell? ⟨g, i, none⟩ = some (.int .i64 (l[i] : Int)) := by
  have h' : w.ownsRow base e 1 (.slice (some ⟨g, 0, none⟩) n c) n ((l.map fun (j : Nat) => (j : Int)).map (.int .i64)) := by rw [List.map_map]; exact h
  have := own_cell h' i (by rw [List.length_map]; exact hi)
  rw [this, List.getElem_map]
theorem g3_from {dl : List Int} (hl : dl.length = 3) (h : Sp.IsDist (arcT 3 g3 [5, 5, 10] true) 1048576 (fun v => (v : Int) ∈ [(0 : Int)]) (Sp.ix dl)) : dl = [0, 5, 10] := by
  rw [← Sp.rounds_list (arcT_ok _ _ g3_net.ok) hl h]; decide
theorem dist_at {E : List Ed} {ts : List Int} {D : Nat → Int} {b N : Nat} (hE : EOk N E) (hD : Sp.IsDist (Sp.star (arcT N E ts false)) 8589934593 (· = b) D) {v : Nat} (hv : v < N) : D v = Sp.ix (Sp.rounds (Sp.star (arcT N E ts false)) (Sp.init N [(b : Int)]) N) v :=
  (Sp.rounds_eq (A := Sp.star (arcT N E ts false)) (Sp.star_ok (arcT_ok ts false hE)) hD [(b : Int)] (fun v _ => by rw [List.mem_singleton]; omega) v hv).symm
theorem dist_ex {N : Nat} {E : List Ed} (ts : List Int) {b : Nat} (hE : EOk N E) (hN : N ≤ 12) (hb : b < N) : ∃ D, Sp.IsDist (Sp.star (arcT N E ts false)) 8589934593 (· = b) D :=
  Sp.exists_dist (A := Sp.star (arcT N E ts false)) (Sp.star_ok (arcT_ok ts false hE)) (by show (N : Int) * 8589934593 + 1 < 4611686018427387904; omega) (by decide) (by show N ≤ 4096; omega) hb
theorem g3_way1 {D : Nat → Int} (hD : Sp.IsDist (Sp.star (arcT 3 g3 [5, 5, 10] false)) 8589934593 (· = 2) D) : D 0 = 81921 ∧ ∀ l, Sp.Trail (arcT 3 g3 [5, 5, 10] false) D 2 0 l → l = [2] := by
  have h0 : D 0 = 81921 := (dist_at g3_net.ok hD (by decide)).trans (by decide)
  have h1 : D 1 = 40961 := (dist_at g3_net.ok hD (by decide)).trans (by decide)
  have h2 : D 2 = 0 := (dist_at g3_net.ok hD (by decide)).trans (by decide)
  refine ⟨h0, fun l hl => hl.unique (.cons (by decide) ⟨⟨⟨by decide, by decide⟩, by decide, ?_, ?_⟩, fun j hj hn => ?_⟩ .nil)⟩
  · show D 2 ≠ _; rw [h2]; decide
  · show D 0 = D 2 + _; rw [h0, h2]; decide
  · obtain rfl | rfl : j = 0 ∨ j = 1 := by omega
    · have e : D 0 = D 1 + (5 * 8192 + 1) := hn.2.2.2
      omega
    · exact absurd hn.2.1 (by decide)
theorem g3_way2 {D : Nat → Int} (hD : Sp.IsDist (Sp.star (arcT 3 g3 [5, 5, 4611686018427387904] false)) 8589934593 (· = 2) D) : D 0 = 81922 ∧ ∀ l, Sp.Trail (arcT 3 g3 [5, 5, 4611686018427387904] false) D 2 0 l → l = [0, 1] := by
  have h0 : D 0 = 81922 := (dist_at g3_net.ok hD (by decide)).trans (by decide)
  have h1 : D 1 = 40961 := (dist_at g3_net.ok hD (by decide)).trans (by decide)
  have h2 : D 2 = 0 := (dist_at g3_net.ok hD (by decide)).trans (by decide)
  refine ⟨h0, fun l hl => hl.unique (.cons (by decide) ⟨⟨⟨by decide, by decide⟩, by decide, ?_, ?_⟩, fun j hj hn => ?_⟩ (.cons (by decide) ⟨⟨⟨by decide, by decide⟩, by decide, ?_, ?_⟩, fun j hj hn => ?_⟩ .nil))⟩
  · show D 1 ≠ _; rw [h1]; decide
  · show D 0 = D 1 + _; rw [h0, h1]; decide
  · omega
  · show D 2 ≠ _; rw [h2]; decide
  · show D 1 = D 2 + _; rw [h1, h2]; decide
  · obtain rfl : j = 0 := by omega
    exact absurd hn.2.1 (by decide)
theorem g3_way3 {D : Nat → Int} (hD : Sp.IsDist (Sp.star (arcT 3 g3 [] false)) 8589934593 (· = 2) D) : D 0 = Sp.INF := (dist_at g3_net.ok hD (by decide)).trans (by decide)
end Rg
end Go.Proofs.Ytmacmlgjejdhpaa
