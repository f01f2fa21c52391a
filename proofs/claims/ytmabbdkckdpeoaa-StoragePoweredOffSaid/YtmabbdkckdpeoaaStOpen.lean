/- Layer 19: the list of operations, opened. -/
import Derived.Test.YtmabbdkckdpeoaaStActs
import Derived.Test.YtmabbdkckdpeoaaOpen
import Derived.Test.YtmabbdkckdpeoaaFrame
namespace Go.Proofs.Ytmabbdkckdpeoaa
set_option linter.unusedSimpArgs false
set_option linter.unusedVariables false
open Go.ChangeShapes Go.WideShapes Go.Deep Go.RowKit Go.ChangeAt

/-- one byte slice among the cells -/
theorem open_bytes {H : Type} {enc : TypeId × Value → H} {W : World} {n : Nat} {v : Value} {y : DataW H × List MemPlace} (h : DataW.trod enc Try.prog W 0 (fun _ => true) true n 22 [v] = some y) :
    ∃ (A : Option Addr) (b : List Int) (c : Nat), v = .slice A b.length c ∧ Rd W A (b.map (.int .u8)) ∧ b.length ≤ maxLen ∧ (b.length = 0 ∨ ∃ k, b.length ≤ k ∧ k ∈ y.1.weights Try.prog 22) := by
  rcases open_ints Try.underlying22 Try.underlying5 (by kernel_rfl) h with ⟨hcs, _⟩ | ⟨x, l, c, zs, hcs, _, hl, hm, hz, hy, hcell, hwz⟩
  · simp at hcs
    exact ⟨none, [], 0, hcs, Rd.nil _ _, by simp, .inl rfl⟩
  · simp at hcs
    have hz' : zs.length = c := by simpa using hz
    have e : (zs.take l).length = l := by rw [List.length_take]; omega
    refine ⟨some x, zs.take l, c, by rw [hcs, e], ?_, by rw [e]; omega, .inr ⟨c, by rw [e]; exact hl, ?_⟩⟩
    · intro j v hj
      rw [List.getElem?_map, List.getElem?_take] at hj
      split at hj
      · cases hzj : zs[j]? with
        | none => rw [hzj] at hj; cases hj
        | some z =>
          rw [hzj] at hj
          simp only [Option.map_some, Option.some.injEq] at hj
          subst hj
          have hjl : j < zs.length := (List.getElem?_eq_some_iff.1 hzj).1
          refine ⟨x, rfl, ?_⟩
          rw [hcell j hjl, List.getD_eq_getElem?_getD, hzj]
          rfl
      · cases hj
    · rw [hy]
      simp only [DataW.weights, Try.underlying22]
      have hb : Try.prog.bytesOf 5 = 1 := by kernel_rfl
      rw [hb]
      have : (lits (H := H) .u8 (zs.take l)).length + (lits (H := H) .u8 (zs.drop l)).length = c := by simp [lits]; omega
      rw [this]; simp

theorem open_acts {H : Type} {enc : TypeId × Value → H} {W : World} {r : Reach} {b0 : Nat} {v : Value} {d : DataW H} {p : List MemPlace} (hv : Value.okWide Try.prog W r b0 34 v)
    (h : DataW.Trod enc Try.prog W 0 (fun _ => true) true 34 v d p) (hw : ∀ n ∈ d.weights Try.prog 34, n ≤ reachBytes) :
    ∃ (A : Option Addr) (l : List St.Act) (c : Nat), v = .slice A l.length c ∧ Acts W A l ∧ l.length ≤ c ∧ c ≤ maxLen ∧ ∀ a ∈ l, a.b.length ≤ 140737488355328 := by
  obtain ⟨a, len, cap, rfl⟩ := okWide_slice Try.underlying34 hv
  obtain ⟨fuel, hf⟩ := h
  rcases open_slice_fields Try.underlying34 Try.underlying39 (by kernel_rfl) (by kernel_rfl) hf with ⟨hcs, _⟩ | ⟨x, l', c', m, D, Pl, hcs, _, hl, hm, hmm, hx, hi⟩
  · simp [Value.cells] at hcs
    obtain ⟨rfl, rfl, rfl⟩ := hcs
    exact ⟨none, [], 0, rfl, fun k hk => by simp at hk, by simp, by unfold maxLen; omega, by simp⟩
  · simp [Value.cells] at hcs
    obtain ⟨rfl, rfl, rfl⟩ := hcs
    have hm' : m = cap := by simpa using hmm
    subst hm'
    have step : ∀ i, i < len → ∃ q : St.Act × Option Addr × Nat, ∃ b o, x.add (i * 4) = ⟨b, o, none⟩ ∧ W.cell? ⟨b, o, none⟩ = some (.int .u8 q.1.kind) ∧ W.cell? ⟨b, o + 1, none⟩ = some (.slice q.2.1 q.1.b.length q.2.2) ∧
        W.cell? ⟨b, o + 2, none⟩ = some (.int .i64 q.1.n) ∧ W.cell? ⟨b, o + 3, none⟩ = some (.int .u8 q.1.m) ∧
        ActV W (.agg #[.int .u8 q.1.kind, .slice q.2.1 q.1.b.length q.2.2, .int .i64 q.1.n, .int .u8 q.1.m]) q.1 ∧ q.1.b.length ≤ 140737488355328 := by
      intro i hil
      obtain ⟨ys, n, hD, _, hyl, hfld⟩ := hi i (by omega)
      obtain ⟨v0, y0, c0, e0, t0⟩ := hfld 0 _ rfl
      obtain ⟨v1, y1, c1, e1, t1⟩ := hfld 1 _ rfl
      obtain ⟨v2, y2, c2, e2, t2⟩ := hfld 2 _ rfl
      obtain ⟨v3, y3, c3, e3, t3⟩ := hfld 3 _ rfl
      obtain ⟨k0, f0, _, g0⟩ := DataW.trod_int Try.underlying5 t0
      obtain ⟨k2, f2, _, g2⟩ := DataW.trod_int Try.underlying3 t2
      obtain ⟨k3, f3, _, g3⟩ := DataW.trod_int Try.underlying5 t3
      obtain ⟨A', b, c', f1, hrb, hbl, hwt⟩ := open_bytes t1
      simp at f0 f2 f3
      subst f0 f1 f2 f3
      have hbig : b.length ≤ 140737488355328 := by
        rcases hwt with h0 | ⟨k, hk1, hk2⟩
        · omega
        · have h1 : k ∈ (D i).weights Try.prog 39 := by
            rw [hD]
            simp only [DataW.weights, Try.underlying39]
            exact DataW.weights_mem_each (j := 1) (t := 22) rfl (by rw [List.getElem?_map, e1]; rfl) k hk2
          have h2 := weights_mem_all h1 (l := (List.range len).map D) (List.mem_map.2 ⟨i, List.mem_range.2 hil, rfl⟩)
          have h3 := hw k (by
            rw [show d = _ from congrArg Prod.fst hx]
            simp only [DataW.weights, Try.underlying34, List.mem_cons, List.mem_append]
            exact .inr (.inl h2))
          unfold reachBytes at h3; omega
      obtain ⟨bl, of, sp, had⟩ : ∃ bl of sp, x.add (i * 4) = ⟨bl, of, sp⟩ := ⟨_, _, _, rfl⟩
      have hadd : ∀ j, x.add (i * 4 + j) = (⟨bl, of, sp⟩ : Addr).add j := fun j => by rw [← had, add_of_add]
      have d0 : W.cell? ⟨bl, of, sp⟩ = some (.int .u8 k0) := by rw [← had]; exact c0
      have hsp : sp = none := by simpa using World.cell?_spot d0
      subst hsp
      have q1 : W.cell? ⟨bl, of + 1, none⟩ = some (.slice A' b.length c') := by have h : W.cell? (x.add (i * 4 + 1)) = some (.slice A' b.length c') := c1; rw [hadd 1] at h; exact h
      have q2 : W.cell? ⟨bl, of + 2, none⟩ = some (.int .i64 k2) := by have h : W.cell? (x.add (i * 4 + 2)) = some (.int .i64 k2) := c2; rw [hadd 2] at h; exact h
      have q3 : W.cell? ⟨bl, of + 3, none⟩ = some (.int .u8 k3) := by have h : W.cell? (x.add (i * 4 + 3)) = some (.int .u8 k3) := c3; rw [hadd 3] at h; exact h
      have b0 := bounds_u8 g0
      have b2 := bounds_i64 g2
      exact ⟨⟨⟨k0, b, k2, k3⟩, A', c'⟩, bl, of, had, d0, q1, q2, q3, ⟨A', c', rfl, hrb, hbl, b0.1, b2⟩, hbig⟩
    obtain ⟨qs, hql, hq⟩ := list_of len step
    refine ⟨some x, qs.map (·.1), m, by rw [List.length_map, hql], ?_, by rw [List.length_map]; omega, hm, ?_⟩
    · intro k hk
      rw [List.length_map] at hk
      obtain ⟨b, o, h0, h1, h2, h3, h4, h5, h6⟩ := hq k hk
      simp only [List.getElem_map]
      exact ⟨x, b, o, _, _, rfl, h0, h1, h2, h3, h4, h5⟩
    · intro a ha
      obtain ⟨q, hqm, rfl⟩ := List.mem_map.1 ha
      obtain ⟨k, hk, rfl⟩ := List.getElem_of_mem hqm
      obtain ⟨b, o, h0, h1, h2, h3, h4, h5, h6⟩ := hq k hk
      exact h6
end Go.Proofs.Ytmabbdkckdpeoaa
