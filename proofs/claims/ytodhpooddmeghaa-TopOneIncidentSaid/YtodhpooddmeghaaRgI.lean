/- Layer 9: the reference's shortest path. -/
import Derived.Test.YtodhpooddmeghaaRgH
import Derived.Test.YtodhpooddmeghaaSpD
namespace Go.Proofs.Ytodhpooddmeghaa
set_option linter.unusedSimpArgs false
set_option linter.unusedVariables false
open Go.RowKit

namespace Sp
theorem Bd.upTo {A : Arcs} {W : Int} (hA : A.Ok W) {d : List Int} (h : Bd A.N d) : ∀ j, j ≤ A.M → Bd A.N (upTo A d j)
  | 0, _ => h
  | j + 1, hj => by rw [upTo_succ]; exact (Bd.upTo hA h j (by omega)).rlx hA (by omega)
theorem Bd.rounds {A : Arcs} {W : Int} (hA : A.Ok W) {d : List Int} (h : Bd A.N d) : ∀ k, Bd A.N (rounds A d k)
  | 0 => h
  | k + 1 => (Bd.rounds hA h k).upTo hA A.M (Nat.le_refl _)
/-- looking from the last arc down: the least that leads on, of those from m on, or -1 -/
def NX (A : Arcs) (D : Nat → Int) (v m : Nat) (nx : Int) : Prop := (nx = -1 ∧ ∀ j, m ≤ j → ¬ Next A D v j) ∨ (∃ u : Nat, nx = u ∧ Next A D v u ∧ ∀ j, m ≤ j → j < u → ¬ Next A D v j)
theorem NX.start (A : Arcs) (D : Nat → Int) (v : Nat) : NX A D v A.M (-1) := .inl ⟨rfl, fun j hj h => by have := h.1.1; omega⟩
theorem NX.no {A : Arcs} {D : Nat → Int} {v j : Nat} {nx : Int} (h : NX A D v (j + 1) nx) (hn : ¬ Next A D v j) : NX A D v j nx := by
  rcases h with ⟨h1, h2⟩ | ⟨u, h1, h2, h3⟩
  refine .inl ⟨h1, fun i hi => ?_⟩
  by_cases e : i = j
  subst e; exact hn
  exact h2 i (by omega)
  refine .inr ⟨u, h1, h2, fun i hi hu => ?_⟩
  by_cases e : i = j
  subst e; exact hn
  exact h3 i (by omega) hu
theorem NX.yes {A : Arcs} {D : Nat → Int} {v j : Nat} (h : Next A D v j) : NX A D v j j := .inr ⟨j, rfl, h, fun i hi hu => by omega⟩
theorem NX.done {A : Arcs} {D : Nat → Int} {v : Nat} {nx : Int} (h : NX A D v 0 nx) (he : ∃ i, Next A D v i) : ∃ u : Nat, nx = u ∧ Least A D v u := by
  rcases h with ⟨_, h2⟩ | ⟨u, h1, h2, h3⟩
  obtain ⟨i, hi⟩ := he; exact absurd hi (h2 i (Nat.zero_le _))
  exact ⟨u, h1, h2, fun j hj => h3 j (Nat.zero_le _) hj⟩
end Sp
namespace Rg
theorem wt_ltF {N : Nat} {E : List Ed} {ts : List Int} {j : Nat} (h : j < E.length) : (arcT N E ts false).wt j = tt ts j := tts_ix ts h
theorem rep_inf {w : World} {base e n c g N : Nat} (h : w.ownsRow base e 1 (.slice (some ⟨g, 0, none⟩) n c) n ((List.replicate N (0 : Int)).flatMap fun x => [Value.int .i64 x])) : w.ownsRow base e 1 (.slice (some ⟨g, 0, none⟩) n c) n ((List.replicate 0 Sp.INF ++ List.replicate (N - 0) 0).map (.int .i64)) := by
  simpa [List.flatMap_replicate] using h
theorem rlxT {N : Nat} {E : List Ed} {ts dl d : List Int} {j : Nat} (hj : j < E.length) (hf : E[j].f < d.length) (ht : E[j].t < d.length) (hbd : Sp.ix d E[j].f ≤ 4611686018427387904) :
    Sp.rlx (Sp.tightA (arcT N E ts false) (Sp.ix dl)) d j = if tt ts j < 4611686018427387904 ∧ Sp.ix dl E[j].t < 4611686018427387904 ∧ Sp.ix dl E[j].f = tt ts j + Sp.ix dl E[j].t ∧ d[E[j].t] + 1 < d[E[j].f] then d.set E[j].f (d[E[j].t] + 1) else d := by
  have e1' : (arcT N E ts false).s j = E[j].t := arc_s hj
  have e2' : (arcT N E ts false).t j = E[j].f := arc_t hj
  have e1 : (Sp.tightA (arcT N E ts false) (Sp.ix dl)).s j = E[j].t := e1'
  have e2 : (Sp.tightA (arcT N E ts false) (Sp.ix dl)).t j = E[j].f := e2'
  have e3 : (Sp.tightA (arcT N E ts false) (Sp.ix dl)).wt j = if tt ts j < Sp.INF ∧ Sp.ix dl E[j].t < Sp.INF ∧ Sp.ix dl E[j].f = tt ts j + Sp.ix dl E[j].t then 1 else Sp.INF := by
    show (if (arcT N E ts false).wt j < _ ∧ Sp.ix dl ((arcT N E ts false).s j) < _ ∧ Sp.ix dl ((arcT N E ts false).t j) = _ + Sp.ix dl ((arcT N E ts false).s j) then (1 : Int) else Sp.INF) = _
    rw [wt_ltF hj, e1', e2']
  unfold Sp.rlx
  rw [e1, e2, e3, Sp.ix_get hf, Sp.ix_get ht]
  rw [Sp.ix_get hf] at hbd
  have I : (Sp.INF : Int) = 4611686018427387904 := rfl
  by_cases c : tt ts j < Sp.INF ∧ Sp.ix dl E[j].t < Sp.INF ∧ Sp.ix dl E[j].f = tt ts j + Sp.ix dl E[j].t
  rw [if_pos c]
  by_cases c2 : d[E[j].t] + 1 < d[E[j].f]
  rw [if_pos ⟨by decide, by omega, c2⟩, if_pos ⟨c.1, c.2.1, c.2.2, c2⟩]
  rw [if_neg (fun h => c2 h.2.2), if_neg (fun h => c2 h.2.2.2)]
  rw [if_neg c, if_neg (fun h => absurd h.1 (by decide)), if_neg (fun h => c ⟨h.1, h.2.1, h.2.2.1⟩)]
theorem next_iff {N : Nat} {E : List Ed} {ts dl fl : List Int} {D : Nat → Int} {b v j : Nat} (hEO : EOk N E) (hN : N ≤ 12) (hb : b < N) (hD : Sp.IsDist (Sp.star (arcT N E ts false)) 8589934593 (· = b) D) (hdl : ∀ v, v < N → Sp.ix dl v = Sp.dOf D v) (hfl : ∀ v, v < N → Sp.ix fl v = Sp.fOf D v)
    (hv : v < N) (hvf : D v ≠ Sp.INF) (hj : j < E.length) : Sp.Next (arcT N E ts false) D v j ↔ (E[j].f : Int) = v ∧ tt ts j < 4611686018427387904 ∧ Sp.ix dl E[j].t < 4611686018427387904 ∧ Sp.ix dl v = tt ts j + Sp.ix dl E[j].t ∧ Sp.ix fl v = Sp.ix fl E[j].t + 1 := by
  have hA : (arcT N E ts false).Ok 1048576 := arcT_ok ts false hEO
  have hje := hEO _ (List.getElem_mem hj)
  have e1 : (arcT N E ts false).s j = E[j].t := arc_s hj
  have e2 : (arcT N E ts false).t j = E[j].f := arc_t hj
  have I : (Sp.INF : Int) = 4611686018427387904 := rfl
  have h8 : (1048576 : Int) * 8192 + 1 < Sp.INF := by decide
  have hN' : (arcT N E ts false).N ≤ 4096 := by show N ≤ 4096; omega
  have hwt := tt_bd ts j
  rw [hdl _ hje.2, hdl _ hv, hfl _ hje.2, hfl _ hv]
  have hfin := Sp.fin_of hD hA h8 hN' hb (v := E[j].t) hje.2
  rw [I] at hfin
  unfold Sp.Next
  rw [e1, e2, wt_ltF hj]
  constructor
  rintro ⟨ho, h1, h2, h3⟩
  have ho2 : tt ts j ≠ Sp.INF := by have := ho.2; rwa [wt_ltF hj] at this
  have := (Sp.tight_iff hA h8 hN' hb hD (i := j) ho (by rw [e1]; exact h2) (by rw [e2, h1]; exact hvf)).1 (by rw [e1, e2, h1, wt_ltF hj]; exact h3)
  rw [e1, e2, h1, wt_ltF hj] at this
  exact ⟨by omega, by omega, hfin.2 h2, this.1, this.2⟩
  rintro ⟨h1, h2, h3, h4, h5⟩
  have h1' : E[j].f = v := by omega
  have ho : (arcT N E ts false).Op j := ⟨hj, by rw [wt_ltF hj]; omega⟩
  have h3' := hfin.1 h3
  have := (Sp.tight_iff hA h8 hN' hb hD (i := j) ho (by rw [e1]; exact h3') (by rw [e2, h1']; exact hvf)).2 (by rw [e1, e2, h1', wt_ltF hj]; exact ⟨h4, h5⟩)
  rw [e1, e2, h1', wt_ltF hj] at this
  exact ⟨ho, h1', h3', this⟩
theorem refD {N : Nat} {E : List Ed} {ts : List Int} {D : Nat → Int} {b : Nat} (hEO : EOk N E) (hN : N ≤ 12) (hb : b < N) (hD : Sp.IsDist (Sp.star (arcT N E ts false)) 8589934593 (· = b) D) :
    (∀ v, v < N → Sp.ix (Sp.rounds (Rg.arcT N E ts false) (Sp.init N [(b : Int)]) N) v = Sp.dOf D v) ∧ (∀ v, v < N → Sp.ix (Sp.rounds (Sp.tightA (Rg.arcT N E ts false) (Sp.ix (Sp.rounds (Rg.arcT N E ts false) (Sp.init N [(b : Int)]) N))) (Sp.init N [(b : Int)]) N) v = Sp.fOf D v) := by
  have hA : (arcT N E ts false).Ok 1048576 := arcT_ok ts false hEO
  have h8 : (1048576 : Int) * 8192 + 1 < Sp.INF := by decide
  have hN' : (arcT N E ts false).N ≤ 4096 := by show N ≤ 4096; omega
  have hNW : ((arcT N E ts false).N : Int) * (1048576 * 8192 + 1) + (1048576 * 8192 + 1) < Sp.INF := by show (N : Int) * (1048576 * 8192 + 1) + (1048576 * 8192 + 1) < 4611686018427387904; omega
  have he : ∀ v, v < (arcT N E ts false).N → (v = b ↔ (v : Int) ∈ [(b : Int)]) := fun v _ => by rw [List.mem_singleton]; omega
  have h1 := fun v (hv : v < N) => Sp.rounds_eq hA (Sp.star_dist hA h8 hN' hNW hb hD) [(b : Int)] he v hv
  refine ⟨h1, fun v hv => ?_⟩
  exact Sp.rounds_eq (Sp.tightA_ok hA _) (Sp.tightA_congr _ hA (fun v hv => (h1 v hv).symm) (Sp.few_dist hA h8 hN' hNW hb hD)) [(b : Int)] he v hv
end Rg
end Go.Proofs.Ytodhpooddmeghaa
