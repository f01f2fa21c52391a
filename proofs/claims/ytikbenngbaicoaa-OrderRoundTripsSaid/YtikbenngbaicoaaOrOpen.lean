/- Layer 28: how the arguments of the laws are opened. -/
import Derived.Test.YtikbenngbaicoaaOrS
import Derived.Test.YtikbenngbaicoaaOpen
import Derived.Test.YtikbenngbaicoaaFrame
import Derived.Deep.Grids
namespace Go.Proofs.Ytikbenngbaicoaa
set_option linter.unusedSimpArgs false
set_option linter.unusedVariables false
open Go.ChangeShapes Go.WideShapes Go.Deep Go.RowKit Go.ChangeAt

section
variable {H : Type} {enc : TypeId × Value → H} {P : Program} {w : World} {base : Nat} {spare : Nat → Bool} {held : Bool}
/-- a struct by value whose fields take a cell each: each cell reads as its field's type says -/
theorem open_flat {r : Reach} {b0 : Nat} {t : TypeId} {fs : Array Field} {v : Value} {d : DataW H} {p : List MemPlace} (hs : P.underlying t = some (.struct fs)) (hone : oneCellFields P fs = true) (hC : P.cellsOf t = fs.size)
    (hv : Value.okWide P w r b0 t v) (h : DataW.Trod enc P w base spare held t v d p) :
    ∃ cs : Array Value, v = .agg cs ∧ cs.size = fs.size ∧ ∀ (j : Nat) (f : Field) (u : Value), fs[j]? = some f → cs[j]? = some u → ∃ n y, DataW.trod enc P w base spare held n f.type [u] = some y := by
  obtain ⟨cs, rfl, hsz⟩ := okWide_struct hs hv
  refine ⟨cs, rfl, hsz.trans hC, fun j f u hj hu => ?_⟩
  obtain ⟨fuel, hf⟩ := h
  obtain ⟨xs, n, _, _, _, hlen, hg⟩ := DataW.trod_struct hs hf
  obtain ⟨o, k⟩ := hone_of hone j f hj
  have h1 := hg j f hj
  rw [o, k] at h1
  have hjl : j < fs.size := (Array.getElem?_eq_some_iff.1 hj).1
  have hxs : xs[j]? = some (xs[j]'(by omega)) := List.getElem?_eq_getElem (by omega)
  have hcj : ((Value.agg cs).cells.toList.drop j).take 1 = [u] := by
    have hu' : cs.toList[j]? = some u := by rw [Array.getElem?_toList]; exact hu
    obtain ⟨hlt, he⟩ := List.getElem?_eq_some_iff.1 hu'
    show (cs.toList.drop j).take 1 = [u]
    rw [List.drop_eq_getElem_cons hlt, he]; rfl
  rw [hcj, hxs] at h1
  exact ⟨n, _, h1⟩
end

theorem i64_of {n : Int} (h : (Lit.int .i64 n).wf = true) : Wr.I64 n := by have := bounds_i64 h; unfold Wr.I64; omega
theorem open_order {H : Type} {enc : TypeId × Value → H} {W : World} {r : Reach} {b0 : Nat} {v : Value} {d : DataW H} {p : List MemPlace} (hv : Value.okWide Try.prog W r b0 29 v)
    (h : DataW.Trod enc Try.prog W 0 (fun _ => true) true 29 v d p) : ∃ o : Or.O, v = .agg #[.int .i64 o.u, .int .i64 o.e, .int .i64 o.k, .int .i64 o.i, .int .i64 o.n] ∧ Or.O64 o := by
  obtain ⟨⟨l⟩, rfl, hl, hf⟩ := open_flat Try.underlying29 (by kernel_rfl) (by kernel_rfl) hv h
  match l, hl with
  | [c0, c1, c2, c3, c4], _ =>
    obtain ⟨_, _, t0⟩ := hf 0 _ c0 rfl rfl
    obtain ⟨_, _, t1⟩ := hf 1 _ c1 rfl rfl
    obtain ⟨_, _, t2⟩ := hf 2 _ c2 rfl rfl
    obtain ⟨_, _, t3⟩ := hf 3 _ c3 rfl rfl
    obtain ⟨_, _, t4⟩ := hf 4 _ c4 rfl rfl
    obtain ⟨k0, f0, _, g0⟩ := DataW.trod_int Try.underlying3 t0
    obtain ⟨k1, f1, _, g1⟩ := DataW.trod_int Try.underlying2 t1
    obtain ⟨k2, f2, _, g2⟩ := DataW.trod_int Try.underlying3 t2
    obtain ⟨k3, f3, _, g3⟩ := DataW.trod_int Try.underlying2 t3
    obtain ⟨k4, f4, _, g4⟩ := DataW.trod_int Try.underlying3 t4
    simp at f0 f1 f2 f3 f4
    subst f0 f1 f2 f3 f4
    exact ⟨⟨k0, k1, k2, k3, k4⟩, rfl, i64_of g0, i64_of g1, i64_of g2, i64_of g3, i64_of g4⟩
theorem open_status {H : Type} {enc : TypeId × Value → H} {W : World} {r : Reach} {b0 : Nat} {v : Value} {d : DataW H} {p : List MemPlace} (hv : Value.okWide Try.prog W r b0 45 v)
    (h : DataW.Trod enc Try.prog W 0 (fun _ => true) true 45 v d p) : ∃ s : Or.S, v = .agg #[.int .i64 s.u, .int .i64 s.q, .int .i64 s.s, .int .i64 s.n, .int .i64 s.e] ∧ Or.S64 s := by
  obtain ⟨⟨l⟩, rfl, hl, hf⟩ := open_flat Try.underlying45 (by kernel_rfl) (by kernel_rfl) hv h
  match l, hl with
  | [c0, c1, c2, c3, c4], _ =>
    obtain ⟨_, _, t0⟩ := hf 0 _ c0 rfl rfl
    obtain ⟨_, _, t1⟩ := hf 1 _ c1 rfl rfl
    obtain ⟨_, _, t2⟩ := hf 2 _ c2 rfl rfl
    obtain ⟨_, _, t3⟩ := hf 3 _ c3 rfl rfl
    obtain ⟨_, _, t4⟩ := hf 4 _ c4 rfl rfl
    obtain ⟨k0, f0, _, g0⟩ := DataW.trod_int Try.underlying3 t0
    obtain ⟨k1, f1, _, g1⟩ := DataW.trod_int Try.underlying2 t1
    obtain ⟨k2, f2, _, g2⟩ := DataW.trod_int Try.underlying3 t2
    obtain ⟨k3, f3, _, g3⟩ := DataW.trod_int Try.underlying3 t3
    obtain ⟨k4, f4, _, g4⟩ := DataW.trod_int Try.underlying2 t4
    simp at f0 f1 f2 f3 f4
    subst f0 f1 f2 f3 f4
    exact ⟨⟨k0, k1, k2, k3, k4⟩, rfl, i64_of g0, i64_of g1, i64_of g2, i64_of g3, i64_of g4⟩

theorem open_orders {H : Type} {enc : TypeId × Value → H} {W : World} {r : Reach} {b0 : Nat} {v : Value} {d : DataW H} {p : List MemPlace} (hv : Value.okWide Try.prog W r b0 22 v)
    (h : DataW.Trod enc Try.prog W 0 (fun _ => true) true 22 v d p) :
    ∃ (A : Option Addr) (l : List Or.O) (c : Nat), v = .slice A l.length c ∧ Orders W A l ∧ l.length ≤ c ∧ c ≤ maxLen ∧ ∀ o ∈ l, Or.O64 o := by
  obtain ⟨a, len, cap, rfl⟩ := okWide_slice Try.underlying22 hv
  obtain ⟨fuel, hf⟩ := h
  rcases open_slice_fields Try.underlying22 Try.underlying29 (by kernel_rfl) (by kernel_rfl) hf with ⟨hcs, _⟩ | ⟨x, l', c', m, D, Pl, hcs, _, hl, hm, hmm, hx, hi⟩
  · simp [Value.cells] at hcs
    obtain ⟨rfl, rfl, rfl⟩ := hcs
    exact ⟨none, [], 0, rfl, fun k hk => by simp at hk, by simp, by unfold maxLen; omega, by simp⟩
  · simp [Value.cells] at hcs
    obtain ⟨rfl, rfl, rfl⟩ := hcs
    have hm' : m = cap := by simpa using hmm
    subst hm'
    have step : ∀ i, i < len → ∃ q : Or.O, (∃ b o, x.add (i * 5) = ⟨b, o, none⟩ ∧ W.cell? ⟨b, o, none⟩ = some (.int .i64 q.u) ∧ W.cell? ⟨b, o + 1, none⟩ = some (.int .i64 q.e) ∧
        W.cell? ⟨b, o + 2, none⟩ = some (.int .i64 q.k) ∧ W.cell? ⟨b, o + 3, none⟩ = some (.int .i64 q.i) ∧ W.cell? ⟨b, o + 4, none⟩ = some (.int .i64 q.n)) ∧ Or.O64 q := by
      intro i hil
      obtain ⟨ys, n, hD, _, hyl, hfld⟩ := hi i (by omega)
      obtain ⟨v0, y0, c0, e0, t0⟩ := hfld 0 _ rfl
      obtain ⟨v1, y1, c1, e1, t1⟩ := hfld 1 _ rfl
      obtain ⟨v2, y2, c2, e2, t2⟩ := hfld 2 _ rfl
      obtain ⟨v3, y3, c3, e3, t3⟩ := hfld 3 _ rfl
      obtain ⟨v4, y4, c4, e4, t4⟩ := hfld 4 _ rfl
      obtain ⟨k0, f0, _, g0⟩ := DataW.trod_int Try.underlying3 t0
      obtain ⟨k1, f1, _, g1⟩ := DataW.trod_int Try.underlying2 t1
      obtain ⟨k2, f2, _, g2⟩ := DataW.trod_int Try.underlying3 t2
      obtain ⟨k3, f3, _, g3⟩ := DataW.trod_int Try.underlying2 t3
      obtain ⟨k4, f4, _, g4⟩ := DataW.trod_int Try.underlying3 t4
      simp at f0 f1 f2 f3 f4
      subst f0 f1 f2 f3 f4
      obtain ⟨bl, of, sp, had⟩ : ∃ bl of sp, x.add (i * 5) = ⟨bl, of, sp⟩ := ⟨_, _, _, rfl⟩
      have hadd : ∀ j, x.add (i * 5 + j) = (⟨bl, of, sp⟩ : Addr).add j := fun j => by rw [← had, add_of_add]
      have d0 : W.cell? ⟨bl, of, sp⟩ = some (.int .i64 k0) := by rw [← had]; exact c0
      have hsp : sp = none := by simpa using World.cell?_spot d0
      subst hsp
      have q1 : W.cell? ⟨bl, of + 1, none⟩ = some (.int .i64 k1) := by have h : W.cell? (x.add (i * 5 + 1)) = some (.int .i64 k1) := c1; rw [hadd 1] at h; exact h
      have q2 : W.cell? ⟨bl, of + 2, none⟩ = some (.int .i64 k2) := by have h : W.cell? (x.add (i * 5 + 2)) = some (.int .i64 k2) := c2; rw [hadd 2] at h; exact h
      have q3 : W.cell? ⟨bl, of + 3, none⟩ = some (.int .i64 k3) := by have h : W.cell? (x.add (i * 5 + 3)) = some (.int .i64 k3) := c3; rw [hadd 3] at h; exact h
      have q4 : W.cell? ⟨bl, of + 4, none⟩ = some (.int .i64 k4) := by have h : W.cell? (x.add (i * 5 + 4)) = some (.int .i64 k4) := c4; rw [hadd 4] at h; exact h
      exact ⟨⟨k0, k1, k2, k3, k4⟩, ⟨bl, of, had, d0, q1, q2, q3, q4⟩, i64_of g0, i64_of g1, i64_of g2, i64_of g3, i64_of g4⟩
    obtain ⟨qs, hql, hq⟩ := list_of len step
    refine ⟨some x, qs, m, by rw [hql], ?_, by omega, hm, ?_⟩
    · intro k hk
      obtain ⟨⟨b, o, h0, h1, h2, h3, h4, h5⟩, _⟩ := hq k hk
      exact ⟨x, b, o, rfl, h0, h1, h2, h3, h4, h5⟩
    · intro a ha
      obtain ⟨k, hk, rfl⟩ := List.getElem_of_mem ha
      exact (hq k hk).2

theorem open_bools' {H : Type} {enc : TypeId × Value → H} {W : World} {r : Reach} {b0 : Nat} {v : Value} {d : DataW H} {p : List MemPlace} (hv : Value.okWide Try.prog W r b0 58 v)
    (h : DataW.Trod enc Try.prog W 0 (fun _ => true) true 58 v d p) : ∃ (A : Option Addr) (l : List Bool) (c : Nat), v = .slice A l.length c ∧ Rd W A (l.map .bool) ∧ l.length ≤ c ∧ c ≤ maxLen := by
  obtain ⟨a, len, cap, rfl⟩ := okWide_slice Try.underlying58 hv
  obtain ⟨fuel, hf⟩ := h
  rcases open_bools Try.underlying58 Try.underlying4 (by kernel_rfl) hf with ⟨hcs, _⟩ | ⟨x, l', c', B, hcs, _, hl, hm, _, hc⟩
  · simp [Value.cells] at hcs
    obtain ⟨rfl, rfl, rfl⟩ := hcs
    exact ⟨none, [], 0, rfl, Rd.nil _ _, by simp, by unfold maxLen; omega⟩
  · simp [Value.cells] at hcs
    obtain ⟨rfl, rfl, rfl⟩ := hcs
    refine ⟨some x, (List.range len).map B, cap, by simp, fun j v hj => ?_, by simpa using hl, hm⟩
    have hjl : j < len := by have := (List.getElem?_eq_some_iff.1 hj).1; simpa using this
    rw [List.getElem?_map, List.getElem?_map, List.getElem?_range hjl] at hj
    injection hj with hj; subst hj
    exact ⟨x, rfl, hc j (by omega)⟩
end Go.Proofs.Ytikbenngbaicoaa
