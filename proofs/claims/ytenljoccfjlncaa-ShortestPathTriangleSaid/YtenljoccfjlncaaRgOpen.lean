/- Layer 9 (shortestpath): how the arguments are opened. -/
import Derived.Test.YtenljoccfjlncaaRgF
import Derived.Test.YtenljoccfjlncaaOpen
import Derived.Test.YtenljoccfjlncaaFrame
namespace Go.Proofs.Ytenljoccfjlncaa
set_option linter.unusedSimpArgs false
set_option linter.unusedVariables false
open Go.ChangeShapes Go.WideShapes Go.Deep Go.RowKit Go.ChangeAt
set_option maxRecDepth 100000

/-- a slice of whole numbers among the cells -/
theorem trod_ints {H : Type} {enc : TypeId × Value → H} {W : World} {n : Nat} {v : Value} {y : DataW H × List MemPlace} (h : DataW.trod enc Try.prog W 0 (fun _ => true) true n 26 [v] = some y) :
    ∃ (A : Option Addr) (b : List Int) (c : Nat), v = .slice A b.length c ∧ Rd W A (b.map (.int .i64)) := by
  rcases open_ints Try.underlying26 Try.underlying3 (by kernel_rfl) h with ⟨hcs, _⟩ | ⟨x, l, c, zs, hcs, _, hl, hm, hz, hy, hcell, hwz⟩
  · simp at hcs
    exact ⟨none, [], 0, hcs, Rd.nil _ _⟩
  · simp at hcs
    have hz' : zs.length = c := by simpa using hz
    have e : (zs.take l).length = l := by rw [List.length_take]; omega
    refine ⟨some x, zs.take l, c, by rw [hcs, e], ?_⟩
    intro j v hj
    rw [List.getElem?_map, List.getElem?_take] at hj
    split at hj
    · cases hzj : zs[j]? with
      | none => rw [hzj] at hj; cases hj
      | some z =>
        rw [hzj] at hj
        simp only [Option.map_some, Option.some.injEq] at hj
        subst hj
        have hjl : j < zs.length := (List.getElem?_eq_some_iff.1 hzj).1
        refine ⟨x, rfl, ?_⟩
        rw [hcell j hjl, List.getD_eq_getElem?_getD, hzj]
        rfl
    · cases hj
/-- a slice of whole numbers among the cells -/
theorem trod_longs {H : Type} {enc : TypeId × Value → H} {W : World} {n : Nat} {v : Value} {y : DataW H × List MemPlace} (h : DataW.trod enc Try.prog W 0 (fun _ => true) true n 25 [v] = some y) :
    ∃ (A : Option Addr) (b : List Int) (c : Nat), v = .slice A b.length c ∧ Rd W A (b.map (.int .i64)) := by
  rcases open_ints Try.underlying25 Try.underlying2 (by kernel_rfl) h with ⟨hcs, _⟩ | ⟨x, l, c, zs, hcs, _, hl, hm, hz, hy, hcell, hwz⟩
  · simp at hcs
    exact ⟨none, [], 0, hcs, Rd.nil _ _⟩
  · simp at hcs
    have hz' : zs.length = c := by simpa using hz
    have e : (zs.take l).length = l := by rw [List.length_take]; omega
    refine ⟨some x, zs.take l, c, by rw [hcs, e], ?_⟩
    intro j v hj
    rw [List.getElem?_map, List.getElem?_take] at hj
    split at hj
    · cases hzj : zs[j]? with
      | none => rw [hzj] at hj; cases hj
      | some z =>
        rw [hzj] at hj
        simp only [Option.map_some, Option.some.injEq] at hj
        subst hj
        have hjl : j < zs.length := (List.getElem?_eq_some_iff.1 hzj).1
        refine ⟨x, rfl, ?_⟩
        rw [hcell j hjl, List.getD_eq_getElem?_getD, hzj]
        rfl
    · cases hj
theorem trod_edges {H : Type} {enc : TypeId × Value → H} {W : World} {n : Nat} {v : Value} {y : DataW H × List MemPlace} (h : DataW.trod enc Try.prog W 0 (fun _ => true) true n 22 [v] = some y) :
    ∃ (A : Option Addr) (l : List Rg.Re) (c : Nat), v = .slice A l.length c ∧ Rd W A (l.flatMap Rg.Re.cells) := by
  rcases open_slice_fields Try.underlying22 Try.underlying63 (by kernel_rfl) (by kernel_rfl) h with ⟨hcs, _⟩ | ⟨x, len, cap, m, D, Pl, hcs, _, hl, hm, hmm, hx, hi⟩
  · simp at hcs
    exact ⟨none, [], 0, hcs, Rd.nil _ _⟩
  · simp at hcs
    have hm' : m = cap := by simpa using hmm
    subst hm'
    have step : ∀ i, i < len → ∃ q : Rg.Re, ∀ (j : Nat) (u : Value), (Rg.Re.cells q)[j]? = some u → W.cell? (x.add (i * 3 + j)) = some u := by
      intro i hil
      obtain ⟨ys, n, hD, _, hyl, hfld⟩ := hi i (by omega)
      obtain ⟨v0, y0, c0, e0, t0⟩ := hfld 0 _ rfl
      obtain ⟨v1, y1, c1, e1, t1⟩ := hfld 1 _ rfl
      obtain ⟨v2, y2, c2, e2, t2⟩ := hfld 2 _ rfl
      obtain ⟨k0, f0, _, g0⟩ := DataW.trod_int Try.underlying3 t0
      obtain ⟨k1, f1, _, g1⟩ := DataW.trod_int Try.underlying3 t1
      obtain ⟨k2, f2, _, g2⟩ := DataW.trod_int Try.underlying2 t2
      simp at f0 f1 f2
      subst f0 f1 f2
      refine ⟨⟨k0, k1, k2⟩, fun j u hj => ?_⟩
      match j, hj with
      | 0, hj => obtain rfl := Option.some.inj hj; exact c0
      | 1, hj => obtain rfl := Option.some.inj hj; exact c1
      | 2, hj => obtain rfl := Option.some.inj hj; exact c2
    obtain ⟨qs, hql, hq⟩ := list_of len step
    exact ⟨some x, qs, m, by rw [hcs, hql], Fw.rdOf (m := 3) (fun _ => rfl) (by decide) fun k hk => hq k hk⟩
theorem open_net {H : Type} {enc : TypeId × Value → H} {W : World} {r : Reach} {b0 : Nat} {v : Value} {d : DataW H} {p : List MemPlace} (hv : Value.okWide Try.prog W r b0 24 v)
    (h : DataW.Trod enc Try.prog W 0 (fun _ => true) true 24 v d p) : ∃ (k0 : Int) (A1 : Option Addr) (b1 : List Rg.Re) (n1 : Nat), v = .agg #[.int .i64 k0, .slice A1 b1.length n1] ∧ Rd W A1 (b1.flatMap Rg.Re.cells) := by
  obtain ⟨⟨cs⟩, rfl, hsz⟩ := okWide_struct Try.underlying24 hv
  obtain ⟨fuel, hf⟩ := h
  obtain ⟨xs, n, _, _, hlen, hxl, hg⟩ := DataW.trod_struct Try.underlying24 hf
  have hl : cs.length = 2 := hsz.trans (by kernel_rfl)
  match cs, hl with
  | [c0, c1], _ =>
    have h0 := hg 0 _ rfl
    obtain ⟨y0, hy0⟩ : ∃ y, xs[0]? = some y := ⟨xs[0]'(by have := hxl; simp at this; omega), List.getElem?_eq_getElem _⟩
    rw [hy0] at h0
    have h0 : DataW.trod enc Try.prog W 0 (fun _ => true) true n 3 [c0] = some y0 := h0
    obtain ⟨k0, f0, _, g0⟩ := DataW.trod_int Try.underlying3 h0
    obtain rfl := (List.cons.inj f0).1
    have h1 := hg 1 _ rfl
    obtain ⟨y1, hy1⟩ : ∃ y, xs[1]? = some y := ⟨xs[1]'(by have := hxl; simp at this; omega), List.getElem?_eq_getElem _⟩
    rw [hy1] at h1
    have h1 : DataW.trod enc Try.prog W 0 (fun _ => true) true n 22 [c1] = some y1 := h1
    obtain ⟨A1, b1, n1, rfl, r1_⟩ := trod_edges h1
    exact ⟨k0, A1, b1, n1, rfl, r1_⟩
theorem open_led {H : Type} {enc : TypeId × Value → H} {W : World} {r : Reach} {b0 : Nat} {v : Value} {d : DataW H} {p : List MemPlace} (hv : Value.okWide Try.prog W r b0 43 v)
    (h : DataW.Trod enc Try.prog W 0 (fun _ => true) true 43 v d p) : ∃ (A0 : Option Addr) (b0 : List Int) (n0 : Nat) (k1 : Int) (k2 : Int), v = .agg #[.slice A0 b0.length n0, .int .i64 k1, .int .i64 k2] ∧ Rd W A0 (b0.map (.int .i64)) := by
  obtain ⟨⟨cs⟩, rfl, hsz⟩ := okWide_struct Try.underlying43 hv
  obtain ⟨fuel, hf⟩ := h
  obtain ⟨xs, n, _, _, hlen, hxl, hg⟩ := DataW.trod_struct Try.underlying43 hf
  have hl : cs.length = 3 := hsz.trans (by kernel_rfl)
  match cs, hl with
  | [c0, c1, c2], _ =>
    have h0 := hg 0 _ rfl
    obtain ⟨y0, hy0⟩ : ∃ y, xs[0]? = some y := ⟨xs[0]'(by have := hxl; simp at this; omega), List.getElem?_eq_getElem _⟩
    rw [hy0] at h0
    have h0 : DataW.trod enc Try.prog W 0 (fun _ => true) true n 26 [c0] = some y0 := h0
    obtain ⟨A0, b0, n0, rfl, r0_⟩ := trod_ints h0
    have h1 := hg 1 _ rfl
    obtain ⟨y1, hy1⟩ : ∃ y, xs[1]? = some y := ⟨xs[1]'(by have := hxl; simp at this; omega), List.getElem?_eq_getElem _⟩
    rw [hy1] at h1
    have h1 : DataW.trod enc Try.prog W 0 (fun _ => true) true n 3 [c1] = some y1 := h1
    obtain ⟨k1, f1, _, g1⟩ := DataW.trod_int Try.underlying3 h1
    obtain rfl := (List.cons.inj f1).1
    have h2 := hg 2 _ rfl
    obtain ⟨y2, hy2⟩ : ∃ y, xs[2]? = some y := ⟨xs[2]'(by have := hxl; simp at this; omega), List.getElem?_eq_getElem _⟩
    rw [hy2] at h2
    have h2 : DataW.trod enc Try.prog W 0 (fun _ => true) true n 3 [c2] = some y2 := h2
    obtain ⟨k2, f2, _, g2⟩ := DataW.trod_int Try.underlying3 h2
    obtain rfl := (List.cons.inj f2).1
    exact ⟨A0, b0, n0, k1, k2, rfl, r0_⟩
theorem open_claim {H : Type} {enc : TypeId × Value → H} {W : World} {r : Reach} {b0 : Nat} {v : Value} {d : DataW H} {p : List MemPlace} (hv : Value.okWide Try.prog W r b0 50 v)
    (h : DataW.Trod enc Try.prog W 0 (fun _ => true) true 50 v d p) : ∃ (A0 : Option Addr) (b0 : List Int) (n0 : Nat) (A1 : Option Addr) (b1 : List Int) (n1 : Nat), v = .agg #[.slice A0 b0.length n0, .slice A1 b1.length n1] ∧ Rd W A0 (b0.map (.int .i64)) ∧ Rd W A1 (b1.map (.int .i64)) := by
  obtain ⟨⟨cs⟩, rfl, hsz⟩ := okWide_struct Try.underlying50 hv
  obtain ⟨fuel, hf⟩ := h
  obtain ⟨xs, n, _, _, hlen, hxl, hg⟩ := DataW.trod_struct Try.underlying50 hf
  have hl : cs.length = 2 := hsz.trans (by kernel_rfl)
  match cs, hl with
  | [c0, c1], _ =>
    have h0 := hg 0 _ rfl
    obtain ⟨y0, hy0⟩ : ∃ y, xs[0]? = some y := ⟨xs[0]'(by have := hxl; simp at this; omega), List.getElem?_eq_getElem _⟩
    rw [hy0] at h0
    have h0 : DataW.trod enc Try.prog W 0 (fun _ => true) true n 26 [c0] = some y0 := h0
    obtain ⟨A0, b0, n0, rfl, r0_⟩ := trod_ints h0
    have h1 := hg 1 _ rfl
    obtain ⟨y1, hy1⟩ : ∃ y, xs[1]? = some y := ⟨xs[1]'(by have := hxl; simp at this; omega), List.getElem?_eq_getElem _⟩
    rw [hy1] at h1
    have h1 : DataW.trod enc Try.prog W 0 (fun _ => true) true n 25 [c1] = some y1 := h1
    obtain ⟨A1, b1, n1, rfl, r1_⟩ := trod_longs h1
    exact ⟨A0, b0, n0, A1, b1, n1, rfl, r0_, r1_⟩
theorem open_two {H : Type} {enc : TypeId × Value → H} {W : World} {r : Reach} {b0 : Nat} {v : Value} {d : DataW H} {p : List MemPlace} (hv : Value.okWide Try.prog W r b0 37 v)
    (h : DataW.Trod enc Try.prog W 0 (fun _ => true) true 37 v d p) : ∃ k0 k1 : Int, v = .agg #[.int .i64 k0, .int .i64 k1] := by
  have ⟨cs, e1, e2⟩ : ∃ cs, v = .agg cs ∧ cs.size = Try.prog.cellsOf 37 := by
    simp only [Value.okWide, Try.underlying37] at hv
    obtain ⟨cs, h1, h2, _⟩ := hv
    exact ⟨cs, h1, h2⟩
  subst e1
  obtain ⟨fuel, hf⟩ := h
  have hce : Try.prog.cellsOf 3 = 1 := by kernel_rfl
  obtain ⟨xs, n, _, _, _, hxl, hg⟩ := DataW.trod_array Try.underlying37 hf
  obtain ⟨l⟩ := cs
  have hl : l.length = 2 := e2.trans (by kernel_rfl)
  match l, hl with
  | [c0, c1], _ =>
    rw [hce] at hg
    have h0 := hg 0 (by decide)
    rw [List.getElem?_eq_getElem (by omega)] at h0
    obtain ⟨k0, f0, _⟩ := DataW.trod_int Try.underlying3 h0
    obtain rfl := (List.cons.inj f0).1
    have h1 := hg 1 (by decide)
    rw [List.getElem?_eq_getElem (by omega)] at h1
    obtain ⟨k1, f1, _⟩ := DataW.trod_int Try.underlying3 h1
    obtain rfl := (List.cons.inj f1).1
    exact ⟨_, _, rfl⟩
theorem open_three {H : Type} {enc : TypeId × Value → H} {W : World} {r : Reach} {b0 : Nat} {v : Value} {d : DataW H} {p : List MemPlace} (hv : Value.okWide Try.prog W r b0 57 v)
    (h : DataW.Trod enc Try.prog W 0 (fun _ => true) true 57 v d p) : ∃ k0 k1 k2 : Int, v = .agg #[.int .i64 k0, .int .i64 k1, .int .i64 k2] := by
  have ⟨cs, e1, e2⟩ : ∃ cs, v = .agg cs ∧ cs.size = Try.prog.cellsOf 57 := by
    simp only [Value.okWide, Try.underlying57] at hv
    obtain ⟨cs, h1, h2, _⟩ := hv
    exact ⟨cs, h1, h2⟩
  subst e1
  obtain ⟨fuel, hf⟩ := h
  have hce : Try.prog.cellsOf 3 = 1 := by kernel_rfl
  obtain ⟨xs, n, _, _, _, hxl, hg⟩ := DataW.trod_array Try.underlying57 hf
  obtain ⟨l⟩ := cs
  have hl : l.length = 3 := e2.trans (by kernel_rfl)
  match l, hl with
  | [c0, c1, c2], _ =>
    rw [hce] at hg
    have h0 := hg 0 (by decide)
    rw [List.getElem?_eq_getElem (by omega)] at h0
    obtain ⟨k0, f0, _⟩ := DataW.trod_int Try.underlying3 h0
    obtain rfl := (List.cons.inj f0).1
    have h1 := hg 1 (by decide)
    rw [List.getElem?_eq_getElem (by omega)] at h1
    obtain ⟨k1, f1, _⟩ := DataW.trod_int Try.underlying3 h1
    obtain rfl := (List.cons.inj f1).1
    have h2 := hg 2 (by decide)
    rw [List.getElem?_eq_getElem (by omega)] at h2
    obtain ⟨k2, f2, _⟩ := DataW.trod_int Try.underlying3 h2
    obtain rfl := (List.cons.inj f2).1
    exact ⟨_, _, _, rfl⟩
theorem open_worse {H : Type} {enc : TypeId × Value → H} {W : World} {r : Reach} {b0 : Nat} {v : Value} {d : DataW H} {p : List MemPlace} (hv : Value.okWide Try.prog W r b0 54 v)
    (h : DataW.Trod enc Try.prog W 0 (fun _ => true) true 54 v d p) : ∃ (k0 : Int) (k1 : Int) (A2 : Option Addr) (b2 : List Int) (n2 : Nat) (k3 : Int), v = .agg #[.int .i64 k0, .int .i64 k1, .slice A2 b2.length n2, .int .i64 k3] ∧ Rd W A2 (b2.map (.int .i64)) := by
  obtain ⟨⟨cs⟩, rfl, hsz⟩ := okWide_struct Try.underlying54 hv
  obtain ⟨fuel, hf⟩ := h
  obtain ⟨xs, n, _, _, hlen, hxl, hg⟩ := DataW.trod_struct Try.underlying54 hf
  have hl : cs.length = 4 := hsz.trans (by kernel_rfl)
  match cs, hl with
  | [c0, c1, c2, c3], _ =>
    have h0 := hg 0 _ rfl
    obtain ⟨y0, hy0⟩ : ∃ y, xs[0]? = some y := ⟨xs[0]'(by have := hxl; simp at this; omega), List.getElem?_eq_getElem _⟩
    rw [hy0] at h0
    have h0 : DataW.trod enc Try.prog W 0 (fun _ => true) true n 3 [c0] = some y0 := h0
    obtain ⟨k0, f0, _, g0⟩ := DataW.trod_int Try.underlying3 h0
    obtain rfl := (List.cons.inj f0).1
    have h1 := hg 1 _ rfl
    obtain ⟨y1, hy1⟩ : ∃ y, xs[1]? = some y := ⟨xs[1]'(by have := hxl; simp at this; omega), List.getElem?_eq_getElem _⟩
    rw [hy1] at h1
    have h1 : DataW.trod enc Try.prog W 0 (fun _ => true) true n 2 [c1] = some y1 := h1
    obtain ⟨k1, f1, _, g1⟩ := DataW.trod_int Try.underlying2 h1
    obtain rfl := (List.cons.inj f1).1
    have h2 := hg 2 _ rfl
    obtain ⟨y2, hy2⟩ : ∃ y, xs[2]? = some y := ⟨xs[2]'(by have := hxl; simp at this; omega), List.getElem?_eq_getElem _⟩
    rw [hy2] at h2
    have h2 : DataW.trod enc Try.prog W 0 (fun _ => true) true n 26 [c2] = some y2 := h2
    obtain ⟨A2, b2, n2, rfl, r2_⟩ := trod_ints h2
    have h3 := hg 3 _ rfl
    obtain ⟨y3, hy3⟩ : ∃ y, xs[3]? = some y := ⟨xs[3]'(by have := hxl; simp at this; omega), List.getElem?_eq_getElem _⟩
    rw [hy3] at h3
    have h3 : DataW.trod enc Try.prog W 0 (fun _ => true) true n 3 [c3] = some y3 := h3
    obtain ⟨k3, f3, _, g3⟩ := DataW.trod_int Try.underlying3 h3
    obtain rfl := (List.cons.inj f3).1
    exact ⟨k0, k1, A2, b2, n2, k3, rfl, r2_⟩
end Go.Proofs.Ytenljoccfjlncaa
