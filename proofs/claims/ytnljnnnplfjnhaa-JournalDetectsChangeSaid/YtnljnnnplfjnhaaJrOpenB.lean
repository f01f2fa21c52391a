/- Layer 20 (journal): more arguments opened. -/
import Derived.Test.YtnljnnnplfjnhaaJrOpen
namespace Go.Proofs.Ytnljnnnplfjnhaa
set_option linter.unusedSimpArgs false
set_option linter.unusedVariables false
open Go.ChangeShapes Go.WideShapes Go.Deep Go.RowKit Go.ChangeAt
set_option maxRecDepth 100000

theorem open_two {H : Type} {enc : TypeId × Value → H} {W : World} {r : Reach} {b0 : Nat} {v : Value} {d : DataW H} {p : List MemPlace} (hv : Value.okWide Try.prog W r b0 63 v)
    (h : DataW.Trod enc Try.prog W 0 (fun _ => true) true 63 v d p) : ∃ a b : Int, v = .agg #[.int .u16 a, .int .u16 b] ∧ 0 ≤ a ∧ a ≤ 65535 := by
  have ⟨cs, e1, e2⟩ : ∃ cs, v = .agg cs ∧ cs.size = Try.prog.cellsOf 63 := by
    simp only [Value.okWide, Try.underlying63] at hv
    obtain ⟨cs, h1, h2, _⟩ := hv
    exact ⟨cs, h1, h2⟩
  subst e1
  obtain ⟨fuel, hf⟩ := h
  have hce : Try.prog.cellsOf 54 = 1 := by kernel_rfl
  obtain ⟨xs, n, _, _, _, hxl, hg⟩ := DataW.trod_array Try.underlying63 hf
  obtain ⟨l⟩ := cs
  have hl : l.length = 2 := e2.trans (by kernel_rfl)
  match l, hl with
  | [c0, c1], _ =>
    rw [hce] at hg
    have h0 := hg 0 (by decide)
    have h1 := hg 1 (by decide)
    rw [List.getElem?_eq_getElem (by omega)] at h0 h1
    obtain ⟨k0, f0, _, g0⟩ := DataW.trod_int Try.underlying54 h0
    obtain ⟨k1, f1, _⟩ := DataW.trod_int Try.underlying54 h1
    obtain rfl := (List.cons.inj f0).1
    obtain rfl := (List.cons.inj f1).1
    have := bounds_u16 g0
    exact ⟨_, _, rfl, by omega, by omega⟩
theorem open_bools {H : Type} {enc : TypeId × Value → H} {W : World} {r : Reach} {b0 : Nat} {v : Value} {d : DataW H} {p : List MemPlace} (hv : Value.okWide Try.prog W r b0 62 v)
    (h : DataW.Trod enc Try.prog W 0 (fun _ => true) true 62 v d p) : ∃ (A : Option Addr) (l : List Bool) (c : Nat), v = .slice A l.length c ∧ Rd W A (l.map .bool) := by
  obtain ⟨a, len, cap, rfl⟩ := okWide_slice Try.underlying62 hv
  obtain ⟨fuel, hf⟩ := h
  rcases open_slice Try.underlying62 hf with ⟨hcs, _⟩ | ⟨x, l', c', m, n, D, Pl, hcs, _, hl, hm, hmm, _, hi⟩
  · simp [Value.cells] at hcs
    obtain ⟨rfl, rfl, rfl⟩ := hcs
    exact ⟨none, [], 0, rfl, Rd.nil _ _⟩
  · simp [Value.cells] at hcs
    obtain ⟨rfl, rfl, rfl⟩ := hcs
    have hm' : m = cap := by simpa using hmm
    subst hm'
    have hcz : Try.prog.cellsOf 4 = 1 := by kernel_rfl
    have step : ∀ i, i < len → ∃ q : Bool, W.cell? (x.add i) = some (.bool q) := by
      intro i hil
      obtain ⟨cs', hc, ht'⟩ := hi i (by omega)
      obtain ⟨_, hcl, hat⟩ := World.cells?_some hc
      rw [hcz] at hat hcl
      have hc0 := hat 0 (by omega)
      match cs', hcl with
      | [c0], _ =>
        obtain ⟨q, f0, _⟩ := DataW.trod_bool Try.underlying4 ht'
        obtain rfl := (List.cons.inj f0).1
        refine ⟨q, ?_⟩
        rw [Nat.mul_one] at hc0
        simpa [Addr.add] using hc0
    obtain ⟨qs, hql, hq⟩ := list_of len step
    refine ⟨some x, qs, m, by rw [hql], fun j v hj => ⟨x, rfl, ?_⟩⟩
    rw [List.getElem?_map] at hj
    cases hqj : qs[j]? with
    | none => rw [hqj] at hj; cases hj
    | some q =>
      rw [hqj] at hj
      simp only [Option.map_some, Option.some.injEq] at hj
      subst hj
      obtain ⟨hjl, rfl⟩ := List.getElem?_eq_some_iff.1 hqj
      exact hq j hjl
end Go.Proofs.Ytnljnnnplfjnhaa
