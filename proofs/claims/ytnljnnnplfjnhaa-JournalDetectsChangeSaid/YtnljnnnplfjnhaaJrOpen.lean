/- Layer 20 (journal): how a list of records is opened. -/
import Derived.Test.YtnljnnnplfjnhaaJrM
import Derived.Test.YtnljnnnplfjnhaaOpen
import Derived.Test.YtnljnnnplfjnhaaFrame
namespace Go.Proofs.Ytnljnnnplfjnhaa
set_option linter.unusedSimpArgs false
set_option linter.unusedVariables false
open Go.ChangeShapes Go.WideShapes Go.Deep Go.RowKit Go.ChangeAt
set_option maxRecDepth 100000

theorem u8_bts {l : List Int} (h : ∀ n ∈ l, (Lit.int .u8 n).wf = true) : Ck.Bts l := fun x hx => by have := bounds_u8 (h x hx); omega
/-- one byte slice among the cells -/
theorem jopen_bytes {H : Type} {enc : TypeId × Value → H} {W : World} {n : Nat} {v : Value} {y : DataW H × List MemPlace} (h : DataW.trod enc Try.prog W 0 (fun _ => true) true n 26 [v] = some y) :
    ∃ (A : Option Addr) (b : List Int) (c : Nat), v = .slice A b.length c ∧ Rd W A (b.map (.int .u8)) ∧ Ck.Bts b ∧ (b.length = 0 ∨ ∃ k, b.length ≤ k ∧ k ∈ y.1.weights Try.prog 26) := by
  rcases open_ints Try.underlying26 Try.underlying5 (by kernel_rfl) h with ⟨hcs, _⟩ | ⟨x, l, c, zs, hcs, _, hl, hm, hz, hy, hcell, hwz⟩
  · simp at hcs
    exact ⟨none, [], 0, hcs, Rd.nil _ _, (fun x hx => by cases hx), .inl rfl⟩
  · simp at hcs
    have hz' : zs.length = c := by simpa using hz
    have e : (zs.take l).length = l := by rw [List.length_take]; omega
    refine ⟨some x, zs.take l, c, by rw [hcs, e], ?_, u8_bts fun n hn => hwz n (List.mem_of_mem_take hn), .inr ⟨c, by rw [e]; exact hl, ?_⟩⟩
    · intro j v hj
      rw [List.getElem?_map, List.getElem?_take] at hj
      split at hj
      · cases hzj : zs[j]? with
        | none => rw [hzj] at hj; cases hj
        | some z =>
          rw [hzj] at hj
          simp only [Option.map_some, Option.some.injEq] at hj
          subst hj
          have hjl : j < zs.length := (List.getElem?_eq_some_iff.1 hzj).1
          refine ⟨x, rfl, ?_⟩
          rw [hcell j hjl, List.getD_eq_getElem?_getD, hzj]
          rfl
      · cases hj
    · rw [hy]
      simp only [DataW.weights, Try.underlying26]
      have hb : Try.prog.bytesOf 5 = 1 := by kernel_rfl
      rw [hb]
      have : (lits (H := H) .u8 (zs.take l)).length + (lits (H := H) .u8 (zs.drop l)).length = c := by simp [lits]; omega
      rw [this]; simp
theorem open_recs {H : Type} {enc : TypeId × Value → H} {W : World} {r : Reach} {b0 : Nat} {v : Value} {d : DataW H} {p : List MemPlace} (hv : Value.okWide Try.prog W r b0 22 v)
    (h : DataW.Trod enc Try.prog W 0 (fun _ => true) true 22 v d p) (hw : ∀ n ∈ d.weights Try.prog 22, n ≤ reachBytes) :
    ∃ (A : Option Addr) (l : List Rv) (c : Nat), v = .slice A l.length c ∧ Recs W A l ∧ l.length ≤ c ∧ l.length ≤ maxLen ∧ (∀ v ∈ l, v.b.length ≤ 140737488355328) ∧ ∀ v ∈ l, v.r.ok := by
  obtain ⟨a, len, cap, rfl⟩ := okWide_slice Try.underlying22 hv
  obtain ⟨fuel, hf⟩ := h
  rcases open_slice_fields Try.underlying22 Try.underlying28 (by kernel_rfl) (by kernel_rfl) hf with ⟨hcs, _⟩ | ⟨x, l', c', m, D, Pl, hcs, _, hl, hm, hmm, hx, hi⟩
  · simp [Value.cells] at hcs
    obtain ⟨rfl, rfl, rfl⟩ := hcs
    exact ⟨none, [], 0, rfl, ⟨Rd.nil _ _, by simp⟩, by simp, by simp, by simp, by simp⟩
  · simp [Value.cells] at hcs
    obtain ⟨rfl, rfl, rfl⟩ := hcs
    have hm' : m = cap := by simpa using hmm
    subst hm'
    have step : ∀ i, i < len → ∃ q : Rv, (∀ (j : Nat) (u : Value), (Rv.cells q)[j]? = some u → W.cell? (x.add (i * 2 + j)) = some u) ∧ Rd W q.A (q.b.map (.int .u8)) ∧ q.b.length ≤ 140737488355328 ∧ q.r.ok := by
      intro i hil
      obtain ⟨ys, n, hD, _, hyl, hfld⟩ := hi i (by omega)
      obtain ⟨v0, y0, c0, e0, t0⟩ := hfld 0 _ rfl
      obtain ⟨v1, y1, c1, e1, t1⟩ := hfld 1 _ rfl
      obtain ⟨k0, f0, _, g0⟩ := DataW.trod_int Try.underlying5 t0
      obtain ⟨A', b, c', f1, hrb, hbt, hwt⟩ := jopen_bytes t1
      simp at f0
      subst f0 f1
      have hbig : b.length ≤ 140737488355328 := by
        rcases hwt with h0 | ⟨k, hk1, hk2⟩
        · omega
        · have h1 : k ∈ (D i).weights Try.prog 28 := by
            rw [hD]
            simp only [DataW.weights, Try.underlying28]
            exact DataW.weights_mem_each (j := 1) (t := 26) rfl (by rw [List.getElem?_map, e1]; rfl) k hk2
          have h2 := weights_mem_all h1 (l := (List.range len).map D) (List.mem_map.2 ⟨i, List.mem_range.2 hil, rfl⟩)
          have h3 := hw k (by
            rw [show d = _ from congrArg Prod.fst hx]
            simp only [DataW.weights, Try.underlying22, List.mem_cons, List.mem_append]
            exact .inr (.inl h2))
          unfold reachBytes at h3; omega
      refine ⟨⟨k0, b, A', c'⟩, fun j u hj => ?_, hrb, hbig, ⟨by have := bounds_u8 g0; show 0 ≤ k0 ∧ k0 < 256; omega, hbt⟩⟩
      match j, hj with
      | 0, hj => obtain rfl := Option.some.inj hj; exact c0
      | 1, hj => obtain rfl := Option.some.inj hj; exact c1
    obtain ⟨qs, hql, hq⟩ := list_of len step
    refine ⟨some x, qs, m, by rw [hql], ⟨Fw.rdOf (m := 2) (fun _ => rfl) (by decide) fun k hk => (hq k hk).1, fun v hv => ?_⟩, by omega, by omega, fun v hv => ?_, fun v hv => ?_⟩
    · obtain ⟨k, hk, rfl⟩ := List.getElem_of_mem hv
      exact (hq k hk).2.1
    · obtain ⟨k, hk, rfl⟩ := List.getElem_of_mem hv
      exact (hq k hk).2.2.1
    · obtain ⟨k, hk, rfl⟩ := List.getElem_of_mem hv
      exact (hq k hk).2.2.2
end Go.Proofs.Ytnljnnnplfjnhaa
