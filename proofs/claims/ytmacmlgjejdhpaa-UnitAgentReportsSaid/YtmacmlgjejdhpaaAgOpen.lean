/- Layer 29 (unitagent): how the arguments are opened. -/
import Derived.Test.YtmacmlgjejdhpaaAi
import Derived.Test.YtmacmlgjejdhpaaOpen
import Derived.Test.YtmacmlgjejdhpaaFrame
namespace Go.Proofs.Ytmacmlgjejdhpaa
set_option linter.unusedSimpArgs false
set_option linter.unusedVariables false
open Go.ChangeShapes Go.WideShapes Go.Deep Go.RowKit Go.ChangeAt
set_option maxRecDepth 100000

theorem i64_wf {n : Int} (h : (Lit.int .i64 n).wf = true) : -9223372036854775808 ≤ n ∧ n ≤ 9223372036854775807 := by have := bounds_i64 h; omega
theorem u64_lt {n : Int} (h : (Lit.int .u64 n).wf = true) : 0 ≤ n ∧ n < 18446744073709551616 := by have := bounds_u64 h; omega
theorem u8_wf {n : Int} (h : (Lit.int .u8 n).wf = true) : 0 ≤ n ∧ n < 256 := by have := bounds_u8 h; omega
theorem trod_edges {H : Type} {enc : TypeId × Value → H} {W : World} {n : Nat} {v : Value} {y : DataW H × List MemPlace} (h : DataW.trod enc Try.prog W 0 (fun _ => true) true n 22 [v] = some y) :
    ∃ (A : Option Addr) (l : List Rg.Re) (c : Nat), v = .slice A l.length c ∧ Rd W A (l.flatMap Rg.Re.cells) := by
  rcases open_slice_fields Try.underlying22 Try.underlying75 (by kernel_rfl) (by kernel_rfl) h with ⟨hcs, _⟩ | ⟨x, len, cap, m, D, Pl, hcs, _, hl, hm, hmm, hx, hi⟩
  · simp at hcs
    exact ⟨none, [], 0, hcs, Rd.nil _ _⟩
  · simp at hcs
    have hm' : m = cap := by simpa using hmm
    subst hm'
    have step : ∀ i, i < len → ∃ q : Rg.Re, ∀ (j : Nat) (u : Value), (Rg.Re.cells q)[j]? = some u → W.cell? (x.add (i * 3 + j)) = some u := by
      intro i hil
      obtain ⟨ys, n, hD, _, hyl, hfld⟩ := hi i (by omega)
      obtain ⟨v0, y0, c0, e0, t0⟩ := hfld 0 _ rfl
      obtain ⟨v1, y1, c1, e1, t1⟩ := hfld 1 _ rfl
      obtain ⟨v2, y2, c2, e2, t2⟩ := hfld 2 _ rfl
      obtain ⟨k0, f0, _, g0⟩ := DataW.trod_int Try.underlying3 t0
      obtain ⟨k1, f1, _, g1⟩ := DataW.trod_int Try.underlying3 t1
      obtain ⟨k2, f2, _, g2⟩ := DataW.trod_int Try.underlying2 t2
      simp at f0 f1 f2
      subst f0 f1 f2
      refine ⟨⟨k0, k1, k2⟩, fun j u hj => ?_⟩
      match j, hj with
      | 0, hj => obtain rfl := Option.some.inj hj; exact c0
      | 1, hj => obtain rfl := Option.some.inj hj; exact c1
      | 2, hj => obtain rfl := Option.some.inj hj; exact c2
    obtain ⟨qs, hql, hq⟩ := list_of len step
    exact ⟨some x, qs, m, by rw [hcs, hql], Fw.rdOf (m := 3) (fun _ => rfl) (by decide) fun k hk => hq k hk⟩
theorem trod_net {H : Type} {enc : TypeId × Value → H} {W : World} {n0 : Nat} {v0 v1 : Value} {y : DataW H × List MemPlace} (h : DataW.trod enc Try.prog W 0 (fun _ => true) true n0 24 [v0, v1] = some y) :
    ∃ (N : Int) (A : Option Addr) (R : List Rg.Re) (c : Nat), v0 = .int .i64 N ∧ v1 = .slice A R.length c ∧ Rd W A (R.flatMap Rg.Re.cells) := by
  obtain ⟨xs, n, _, _, hlen, hxl, hg⟩ := DataW.trod_struct Try.underlying24 h
  obtain ⟨c0, hc0⟩ : ∃ c0, c0 = v0 := ⟨_, rfl⟩
  obtain ⟨c1, hc1⟩ : ∃ c1, c1 = v1 := ⟨_, rfl⟩
  subst hc0 hc1
  have h0 := hg 0 _ rfl
  obtain ⟨y0, hy0⟩ : ∃ y, xs[0]? = some y := ⟨xs[0]'(by have := hxl; simp at this; omega), List.getElem?_eq_getElem _⟩
  rw [hy0] at h0
  have h0 : DataW.trod enc Try.prog W 0 (fun _ => true) true n 3 [c0] = some y0 := h0
  obtain ⟨k0, f0, _, g0⟩ := DataW.trod_int Try.underlying3 h0
  obtain rfl := (List.cons.inj f0).1
  have h1 := hg 1 _ rfl
  obtain ⟨y1, hy1⟩ : ∃ y, xs[1]? = some y := ⟨xs[1]'(by have := hxl; simp at this; omega), List.getElem?_eq_getElem _⟩
  rw [hy1] at h1
  have h1 : DataW.trod enc Try.prog W 0 (fun _ => true) true n 22 [c1] = some y1 := h1
  obtain ⟨A1, b1, n1, rfl, r1_⟩ := trod_edges h1
  exact ⟨_, A1, b1, n1, rfl, rfl, r1_⟩
theorem open_made {H : Type} {enc : TypeId × Value → H} {W : World} {r : Reach} {b0 : Nat} {v : Value} {d : DataW H} {p : List MemPlace} (hv : Value.okWide Try.prog W r b0 26 v)
    (h : DataW.Trod enc Try.prog W 0 (fun _ => true) true 26 v d p) : ∃ (u v0 N : Int) (A : Option Addr) (R : List Rg.Re) (c : Nat), v = .agg #[.int .i64 u, .int .i64 v0, .int .i64 N, .slice A R.length c] ∧ Rd W A (R.flatMap Rg.Re.cells) := by
  obtain ⟨⟨cs⟩, rfl, hsz⟩ := okWide_struct Try.underlying26 hv
  obtain ⟨fuel, hf⟩ := h
  obtain ⟨xs, n, _, _, hlen, hxl, hg⟩ := DataW.trod_struct Try.underlying26 hf
  have hl : cs.length = 4 := hsz.trans (by kernel_rfl)
  match cs, hl with
  | [c0, c1, c2, c3], _ =>
    have h0 := hg 0 _ rfl
    obtain ⟨y0, hy0⟩ : ∃ y, xs[0]? = some y := ⟨xs[0]'(by have := hxl; simp at this; omega), List.getElem?_eq_getElem _⟩
    rw [hy0] at h0
    have h0 : DataW.trod enc Try.prog W 0 (fun _ => true) true n 3 [c0] = some y0 := h0
    obtain ⟨k0, f0, _, g0⟩ := DataW.trod_int Try.underlying3 h0
    obtain rfl := (List.cons.inj f0).1
    have h1 := hg 1 _ rfl
    obtain ⟨y1, hy1⟩ : ∃ y, xs[1]? = some y := ⟨xs[1]'(by have := hxl; simp at this; omega), List.getElem?_eq_getElem _⟩
    rw [hy1] at h1
    have h1 : DataW.trod enc Try.prog W 0 (fun _ => true) true n 3 [c1] = some y1 := h1
    obtain ⟨k1, f1, _, g1⟩ := DataW.trod_int Try.underlying3 h1
    obtain rfl := (List.cons.inj f1).1
    have h2 := hg 2 _ rfl
    obtain ⟨y2, hy2⟩ : ∃ y, xs[2]? = some y := ⟨xs[2]'(by have := hxl; simp at this; omega), List.getElem?_eq_getElem _⟩
    rw [hy2] at h2
    have h2 : DataW.trod enc Try.prog W 0 (fun _ => true) true n 24 [c2, c3] = some y2 := h2
    obtain ⟨N, A, R, c, rfl, rfl, hr⟩ := trod_net h2
    exact ⟨_, _, N, A, R, c, rfl, hr⟩
theorem trod_order {H : Type} {enc : TypeId × Value → H} {W : World} {base : Nat} {spare : Nat → Bool} {held : Bool} {fuel : Nat} {cs : List Value} {x : DataW H × List MemPlace} (h : DataW.trod enc Try.prog W base spare held fuel 43 cs = some x) : ∃ o : Or.O, cs = Or.O.cells o ∧ (∀ x_ : Or.O, x_ = o → True) := by
  obtain ⟨xs, n, _, _, hlen, hxl, hg⟩ := DataW.trod_struct Try.underlying43 h
  have hl : cs.length = 5 := hlen.trans (by kernel_rfl)
  match cs, hl with
  | [c0, c1, c2, c3, c4], _ =>
    have h0 := hg 0 _ rfl
    obtain ⟨y0, hy0⟩ : ∃ y, xs[0]? = some y := ⟨xs[0]'(by have := hxl; simp at this; omega), List.getElem?_eq_getElem _⟩
    rw [hy0] at h0
    have h0 : DataW.trod enc Try.prog W base spare held n 3 [c0] = some y0 := h0
    obtain ⟨k0, f0, _, g0⟩ := DataW.trod_int Try.underlying3 h0
    obtain rfl := (List.cons.inj f0).1
    have h1 := hg 1 _ rfl
    obtain ⟨y1, hy1⟩ : ∃ y, xs[1]? = some y := ⟨xs[1]'(by have := hxl; simp at this; omega), List.getElem?_eq_getElem _⟩
    rw [hy1] at h1
    have h1 : DataW.trod enc Try.prog W base spare held n 2 [c1] = some y1 := h1
    obtain ⟨k1, f1, _, g1⟩ := DataW.trod_int Try.underlying2 h1
    obtain rfl := (List.cons.inj f1).1
    have h2 := hg 2 _ rfl
    obtain ⟨y2, hy2⟩ : ∃ y, xs[2]? = some y := ⟨xs[2]'(by have := hxl; simp at this; omega), List.getElem?_eq_getElem _⟩
    rw [hy2] at h2
    have h2 : DataW.trod enc Try.prog W base spare held n 3 [c2] = some y2 := h2
    obtain ⟨k2, f2, _, g2⟩ := DataW.trod_int Try.underlying3 h2
    obtain rfl := (List.cons.inj f2).1
    have h3 := hg 3 _ rfl
    obtain ⟨y3, hy3⟩ : ∃ y, xs[3]? = some y := ⟨xs[3]'(by have := hxl; simp at this; omega), List.getElem?_eq_getElem _⟩
    rw [hy3] at h3
    have h3 : DataW.trod enc Try.prog W base spare held n 2 [c3] = some y3 := h3
    obtain ⟨k3, f3, _, g3⟩ := DataW.trod_int Try.underlying2 h3
    obtain rfl := (List.cons.inj f3).1
    have h4 := hg 4 _ rfl
    obtain ⟨y4, hy4⟩ : ∃ y, xs[4]? = some y := ⟨xs[4]'(by have := hxl; simp at this; omega), List.getElem?_eq_getElem _⟩
    rw [hy4] at h4
    have h4 : DataW.trod enc Try.prog W base spare held n 3 [c4] = some y4 := h4
    obtain ⟨k4, f4, _, g4⟩ := DataW.trod_int Try.underlying3 h4
    obtain rfl := (List.cons.inj f4).1
    exact ⟨⟨k0, k1, k2, k3, k4⟩, rfl, fun _ _ => trivial⟩
theorem trod_act {H : Type} {enc : TypeId × Value → H} {W : World} {base : Nat} {spare : Nat → Bool} {held : Bool} {fuel : Nat} {cs : List Value} {x : DataW H × List MemPlace} (h : DataW.trod enc Try.prog W base spare held fuel 65 cs = some x) : ∃ o : Ag.Act, cs = Ag.Act.cells o ∧ (∀ x_ : Ag.Act, x_ = o → True) := by
  obtain ⟨xs, n, _, _, hlen, hxl, hg⟩ := DataW.trod_struct Try.underlying65 h
  have hl : cs.length = 8 := hlen.trans (by kernel_rfl)
  match cs, hl with
  | [c0, c1, c2, c3, c4, c5, c6, c7], _ =>
    have h0 := hg 0 _ rfl
    obtain ⟨y0, hy0⟩ : ∃ y, xs[0]? = some y := ⟨xs[0]'(by have := hxl; simp at this; omega), List.getElem?_eq_getElem _⟩
    rw [hy0] at h0
    have h0 : DataW.trod enc Try.prog W base spare held n 3 [c0] = some y0 := h0
    obtain ⟨k0, f0, _, g0⟩ := DataW.trod_int Try.underlying3 h0
    obtain rfl := (List.cons.inj f0).1
    have h1 := hg 1 _ rfl
    obtain ⟨y1, hy1⟩ : ∃ y, xs[1]? = some y := ⟨xs[1]'(by have := hxl; simp at this; omega), List.getElem?_eq_getElem _⟩
    rw [hy1] at h1
    have h1 : DataW.trod enc Try.prog W base spare held n 2 [c1] = some y1 := h1
    obtain ⟨k1, f1, _, g1⟩ := DataW.trod_int Try.underlying2 h1
    obtain rfl := (List.cons.inj f1).1
    have h2 := hg 2 _ rfl
    obtain ⟨y2, hy2⟩ : ∃ y, xs[2]? = some y := ⟨xs[2]'(by have := hxl; simp at this; omega), List.getElem?_eq_getElem _⟩
    rw [hy2] at h2
    have h2 : DataW.trod enc Try.prog W base spare held n 2 [c2] = some y2 := h2
    obtain ⟨k2, f2, _, g2⟩ := DataW.trod_int Try.underlying2 h2
    obtain rfl := (List.cons.inj f2).1
    have h3 := hg 3 _ rfl
    obtain ⟨y3, hy3⟩ : ∃ y, xs[3]? = some y := ⟨xs[3]'(by have := hxl; simp at this; omega), List.getElem?_eq_getElem _⟩
    rw [hy3] at h3
    have h3 : DataW.trod enc Try.prog W base spare held n 43 [c3, c4, c5, c6, c7] = some y3 := h3
    obtain ⟨k3, f3, g3⟩ := trod_order h3
    obtain ⟨rfl, rfl, rfl, rfl, rfl⟩ : c3 = .int .i64 k3.u ∧ c4 = .int .i64 k3.e ∧ c5 = .int .i64 k3.k ∧ c6 = .int .i64 k3.i ∧ c7 = .int .i64 k3.n := by simpa [Or.O.cells] using f3
    exact ⟨⟨k0, k1, k2, k3⟩, rfl, fun _ _ => trivial⟩
theorem open_acts {H : Type} {enc : TypeId × Value → H} {W : World} {r : Reach} {b0 : Nat} {v : Value} {d : DataW H} {p : List MemPlace} (hv : Value.okWide Try.prog W r b0 38 v)
    (h : DataW.Trod enc Try.prog W 0 (fun _ => true) true 38 v d p) :
    ∃ (A : Option Addr) (l : List Ag.Act) (c : Nat), v = .slice A l.length c ∧ Rd W A (l.flatMap Ag.Act.cells) ∧ l.length ≤ c ∧ c ≤ maxLen ∧ ∀ o ∈ l, (∀ x_ : Ag.Act, x_ = o → True) := by
  obtain ⟨a, len, cap, rfl⟩ := okWide_slice Try.underlying38 hv
  obtain ⟨fuel, hf⟩ := h
  rcases open_slice Try.underlying38 hf with ⟨hcs, _⟩ | ⟨x, l', c', m, n, D, Pl, hcs, _, hl, hm, hmm, _, hi⟩
  · simp [Value.cells] at hcs
    obtain ⟨rfl, rfl, rfl⟩ := hcs
    exact ⟨none, [], 0, rfl, Rd.nil _ _, by simp, by unfold maxLen; omega, by simp⟩
  · simp [Value.cells] at hcs
    obtain ⟨rfl, rfl, rfl⟩ := hcs
    have hm' : m = cap := by simpa using hmm
    subst hm'
    have step : ∀ i, i < len → ∃ q : Ag.Act, (∀ (j : Nat) (u : Value), (Ag.Act.cells q)[j]? = some u → W.cell? (x.add (i * 8 + j)) = some u) ∧ (∀ x_ : Ag.Act, x_ = q → True) := by
      intro i hil
      obtain ⟨cs', hc, ht'⟩ := hi i (by omega)
      obtain ⟨q, e, hok⟩ := trod_act ht'
      obtain ⟨_, hcl, hat⟩ := World.cells?_some hc
      refine ⟨q, fun j u hj => ?_, hok⟩
      have hcz : Try.prog.cellsOf 65 = 8 := by kernel_rfl
      rw [hcz] at hat hcl
      have hjl : j < cs'.length := by rw [e]; exact (List.getElem?_eq_some_iff.1 hj).1
      rw [← add_of_add, hat j (by omega), e]; exact hj
    obtain ⟨qs, hql, hq⟩ := list_of len step
    refine ⟨some x, qs, m, by rw [hql], ?_, by omega, hm, ?_⟩
    · exact Fw.rdOf (m := 8) (fun _ => rfl) (by decide) fun k hk => (hq k hk).1
    · intro a ha
      obtain ⟨k, hk, rfl⟩ := List.getElem_of_mem ha
      exact (hq k hk).2
theorem trod_three {H : Type} {enc : TypeId × Value → H} {W : World} {n0 : Nat} {c0 c1 c2 : Value} {y : DataW H × List MemPlace} (h : DataW.trod enc Try.prog W 0 (fun _ => true) true n0 55 [c0, c1, c2] = some y) : ∃ a b c : Int, c0 = .int .i64 a ∧ c1 = .int .i64 b ∧ c2 = .int .i64 c := by
  have hce : Try.prog.cellsOf 2 = 1 := by kernel_rfl
  obtain ⟨xs, n, _, _, _, hxl, hg⟩ := DataW.trod_array Try.underlying55 h
  rw [hce] at hg
  have h0 := hg 0 (by decide)
  have h1 := hg 1 (by decide)
  have h2 := hg 2 (by decide)
  rw [List.getElem?_eq_getElem (by omega)] at h0 h1 h2
  obtain ⟨k0, f0, _⟩ := DataW.trod_int Try.underlying2 h0
  obtain ⟨k1, f1, _⟩ := DataW.trod_int Try.underlying2 h1
  obtain ⟨k2, f2, _⟩ := DataW.trod_int Try.underlying2 h2
  exact ⟨k0, k1, k2, (List.cons.inj f0).1, (List.cons.inj f1).1, (List.cons.inj f2).1⟩
theorem open_far {H : Type} {enc : TypeId × Value → H} {W : World} {r : Reach} {b0 : Nat} {v : Value} {d : DataW H} {p : List MemPlace} (hv : Value.okWide Try.prog W r b0 57 v)
    (h : DataW.Trod enc Try.prog W 0 (fun _ => true) true 57 v d p) : ∃ (o : Or.O) (a b c : Int), v = .agg #[.int .i64 o.u, .int .i64 o.e, .int .i64 o.k, .int .i64 o.i, .int .i64 o.n, .int .i64 a, .int .i64 b, .int .i64 c] := by
  obtain ⟨⟨cs⟩, rfl, hsz⟩ := okWide_struct Try.underlying57 hv
  obtain ⟨fuel, hf⟩ := h
  obtain ⟨xs, n, _, _, hlen, hxl, hg⟩ := DataW.trod_struct Try.underlying57 hf
  have hl : cs.length = 8 := hsz.trans (by kernel_rfl)
  match cs, hl with
  | [c0, c1, c2, c3, c4, c5, c6, c7], _ =>
    have h0 := hg 0 _ rfl
    obtain ⟨y0, hy0⟩ : ∃ y, xs[0]? = some y := ⟨xs[0]'(by have := hxl; simp at this; omega), List.getElem?_eq_getElem _⟩
    rw [hy0] at h0
    have h0 : DataW.trod enc Try.prog W 0 (fun _ => true) true n 43 [c0, c1, c2, c3, c4] = some y0 := h0
    obtain ⟨o, e, _⟩ := trod_order h0
    obtain ⟨rfl, rfl, rfl, rfl, rfl⟩ : c0 = .int .i64 o.u ∧ c1 = .int .i64 o.e ∧ c2 = .int .i64 o.k ∧ c3 = .int .i64 o.i ∧ c4 = .int .i64 o.n := by simpa [Or.O.cells] using e
    have h1 := hg 1 _ rfl
    obtain ⟨y1, hy1⟩ : ∃ y, xs[1]? = some y := ⟨xs[1]'(by have := hxl; simp at this; omega), List.getElem?_eq_getElem _⟩
    rw [hy1] at h1
    have h1 : DataW.trod enc Try.prog W 0 (fun _ => true) true n 55 [c5, c6, c7] = some y1 := h1
    obtain ⟨a, b, c, rfl, rfl, rfl⟩ := trod_three h1
    exact ⟨o, a, b, c, rfl⟩
end Go.Proofs.Ytmacmlgjejdhpaa
