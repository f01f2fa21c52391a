/- Layer 27 (unitstate): for every input an argument is opened. -/
import Derived.Test.YtmohhociomghhaaUs
import Derived.Test.YtmohhociomghhaaUsM
import Derived.Test.YtmohhociomghhaaOpen
import Derived.Test.YtmohhociomghhaaFrame
namespace Go.Proofs.Ytmohhociomghhaa
set_option linter.unusedSimpArgs false
set_option linter.unusedVariables false
open Go.ChangeShapes Go.WideShapes Go.Deep Go.RowKit Go.ChangeAt

set_option maxRecDepth 100000
theorem i64_wf {n : Int} (h : (Lit.int .i64 n).wf = true) : -9223372036854775808 ≤ n ∧ n ≤ 9223372036854775807 := by have := bounds_i64 h; omega
theorem u64_lt {n : Int} (h : (Lit.int .u64 n).wf = true) : 0 ≤ n ∧ n < 18446744073709551616 := by have := bounds_u64 h; omega
theorem u8_wf {n : Int} (h : (Lit.int .u8 n).wf = true) : 0 ≤ n ∧ n < 256 := by have := bounds_u8 h; omega
theorem trod_cfg {H : Type} {enc : TypeId × Value → H} {W : World} {base : Nat} {spare : Nat → Bool} {held : Bool} {fuel : Nat} {cs : List Value} {x : DataW H × List MemPlace} (h : DataW.trod enc Try.prog W base spare held fuel 66 cs = some x) : ∃ o : Us.Cfg, cs = Us.Cfg.cells o ∧ (∀ x_ : Us.Cfg, x_ = o → True) := by
  obtain ⟨xs, n, _, _, hlen, hxl, hg⟩ := DataW.trod_struct Try.underlying66 h
  have hl : cs.length = 3 := hlen.trans (by kernel_rfl)
  match cs, hl with
  | [c0, c1, c2], _ =>
    have h0 := hg 0 _ rfl
    obtain ⟨y0, hy0⟩ : ∃ y, xs[0]? = some y := ⟨xs[0]'(by have := hxl; simp at this; omega), List.getElem?_eq_getElem _⟩
    rw [hy0] at h0
    have h0 : DataW.trod enc Try.prog W base spare held n 3 [c0] = some y0 := h0
    obtain ⟨k0, f0, _, g0⟩ := DataW.trod_int Try.underlying3 h0
    obtain rfl := (List.cons.inj f0).1
    have h1 := hg 1 _ rfl
    obtain ⟨y1, hy1⟩ : ∃ y, xs[1]? = some y := ⟨xs[1]'(by have := hxl; simp at this; omega), List.getElem?_eq_getElem _⟩
    rw [hy1] at h1
    have h1 : DataW.trod enc Try.prog W base spare held n 3 [c1] = some y1 := h1
    obtain ⟨k1, f1, _, g1⟩ := DataW.trod_int Try.underlying3 h1
    obtain rfl := (List.cons.inj f1).1
    have h2 := hg 2 _ rfl
    obtain ⟨y2, hy2⟩ : ∃ y, xs[2]? = some y := ⟨xs[2]'(by have := hxl; simp at this; omega), List.getElem?_eq_getElem _⟩
    rw [hy2] at h2
    have h2 : DataW.trod enc Try.prog W base spare held n 3 [c2] = some y2 := h2
    obtain ⟨k2, f2, _, g2⟩ := DataW.trod_int Try.underlying3 h2
    obtain rfl := (List.cons.inj f2).1
    exact ⟨⟨k0, k1, k2⟩, rfl, fun _ _ => trivial⟩
theorem open_cfgs {H : Type} {enc : TypeId × Value → H} {W : World} {r : Reach} {b0 : Nat} {v : Value} {d : DataW H} {p : List MemPlace} (hv : Value.okWide Try.prog W r b0 22 v)
    (h : DataW.Trod enc Try.prog W 0 (fun _ => true) true 22 v d p) :
    ∃ (A : Option Addr) (l : List Us.Cfg) (c : Nat), v = .slice A l.length c ∧ Rd W A (l.flatMap Us.Cfg.cells) ∧ l.length ≤ c ∧ c ≤ maxLen ∧ ∀ o ∈ l, (∀ x_ : Us.Cfg, x_ = o → True) := by
  obtain ⟨a, len, cap, rfl⟩ := okWide_slice Try.underlying22 hv
  obtain ⟨fuel, hf⟩ := h
  rcases open_slice Try.underlying22 hf with ⟨hcs, _⟩ | ⟨x, l', c', m, n, D, Pl, hcs, _, hl, hm, hmm, _, hi⟩
  · simp [Value.cells] at hcs
    obtain ⟨rfl, rfl, rfl⟩ := hcs
    exact ⟨none, [], 0, rfl, Rd.nil _ _, by simp, by unfold maxLen; omega, by simp⟩
  · simp [Value.cells] at hcs
    obtain ⟨rfl, rfl, rfl⟩ := hcs
    have hm' : m = cap := by simpa using hmm
    subst hm'
    have step : ∀ i, i < len → ∃ q : Us.Cfg, (∀ (j : Nat) (u : Value), (Us.Cfg.cells q)[j]? = some u → W.cell? (x.add (i * 3 + j)) = some u) ∧ (∀ x_ : Us.Cfg, x_ = q → True) := by
      intro i hil
      obtain ⟨cs', hc, ht'⟩ := hi i (by omega)
      obtain ⟨q, e, hok⟩ := trod_cfg ht'
      obtain ⟨_, hcl, hat⟩ := World.cells?_some hc
      refine ⟨q, fun j u hj => ?_, hok⟩
      have hcz : Try.prog.cellsOf 66 = 3 := by kernel_rfl
      rw [hcz] at hat hcl
      have hjl : j < cs'.length := by rw [e]; exact (List.getElem?_eq_some_iff.1 hj).1
      rw [← add_of_add, hat j (by omega), e]; exact hj
    obtain ⟨qs, hql, hq⟩ := list_of len step
    refine ⟨some x, qs, m, by rw [hql], ?_, by omega, hm, ?_⟩
    · exact Fw.rdOf (m := 3) (fun _ => rfl) (by decide) fun k hk => (hq k hk).1
    · intro a ha
      obtain ⟨k, hk, rfl⟩ := List.getElem_of_mem ha
      exact (hq k hk).2
theorem trod_status {H : Type} {enc : TypeId × Value → H} {W : World} {base : Nat} {spare : Nat → Bool} {held : Bool} {fuel : Nat} {cs : List Value} {x : DataW H × List MemPlace} (h : DataW.trod enc Try.prog W base spare held fuel 45 cs = some x) : ∃ o : Us.S, cs = Us.S.cells o ∧ (∀ x_ : Us.S, x_ = o → True) := by
  obtain ⟨xs, n, _, _, hlen, hxl, hg⟩ := DataW.trod_struct Try.underlying45 h
  have hl : cs.length = 5 := hlen.trans (by kernel_rfl)
  match cs, hl with
  | [c0, c1, c2, c3, c4], _ =>
    have h0 := hg 0 _ rfl
    obtain ⟨y0, hy0⟩ : ∃ y, xs[0]? = some y := ⟨xs[0]'(by have := hxl; simp at this; omega), List.getElem?_eq_getElem _⟩
    rw [hy0] at h0
    have h0 : DataW.trod enc Try.prog W base spare held n 3 [c0] = some y0 := h0
    obtain ⟨k0, f0, _, g0⟩ := DataW.trod_int Try.underlying3 h0
    obtain rfl := (List.cons.inj f0).1
    have h1 := hg 1 _ rfl
    obtain ⟨y1, hy1⟩ : ∃ y, xs[1]? = some y := ⟨xs[1]'(by have := hxl; simp at this; omega), List.getElem?_eq_getElem _⟩
    rw [hy1] at h1
    have h1 : DataW.trod enc Try.prog W base spare held n 2 [c1] = some y1 := h1
    obtain ⟨k1, f1, _, g1⟩ := DataW.trod_int Try.underlying2 h1
    obtain rfl := (List.cons.inj f1).1
    have h2 := hg 2 _ rfl
    obtain ⟨y2, hy2⟩ : ∃ y, xs[2]? = some y := ⟨xs[2]'(by have := hxl; simp at this; omega), List.getElem?_eq_getElem _⟩
    rw [hy2] at h2
    have h2 : DataW.trod enc Try.prog W base spare held n 3 [c2] = some y2 := h2
    obtain ⟨k2, f2, _, g2⟩ := DataW.trod_int Try.underlying3 h2
    obtain rfl := (List.cons.inj f2).1
    have h3 := hg 3 _ rfl
    obtain ⟨y3, hy3⟩ : ∃ y, xs[3]? = some y := ⟨xs[3]'(by have := hxl; simp at this; omega), List.getElem?_eq_getElem _⟩
    rw [hy3] at h3
    have h3 : DataW.trod enc Try.prog W base spare held n 3 [c3] = some y3 := h3
    obtain ⟨k3, f3, _, g3⟩ := DataW.trod_int Try.underlying3 h3
    obtain rfl := (List.cons.inj f3).1
    have h4 := hg 4 _ rfl
    obtain ⟨y4, hy4⟩ : ∃ y, xs[4]? = some y := ⟨xs[4]'(by have := hxl; simp at this; omega), List.getElem?_eq_getElem _⟩
    rw [hy4] at h4
    have h4 : DataW.trod enc Try.prog W base spare held n 2 [c4] = some y4 := h4
    obtain ⟨k4, f4, _, g4⟩ := DataW.trod_int Try.underlying2 h4
    obtain rfl := (List.cons.inj f4).1
    exact ⟨⟨k0, k1, k2, k3, k4⟩, rfl, fun _ _ => trivial⟩
theorem open_status {H : Type} {enc : TypeId × Value → H} {W : World} {r : Reach} {b0 : Nat} {v : Value} {d : DataW H} {p : List MemPlace} (hv : Value.okWide Try.prog W r b0 45 v)
    (h : DataW.Trod enc Try.prog W 0 (fun _ => true) true 45 v d p) : ∃ o : Us.S, v = .agg (Us.S.cells o).toArray ∧ (∀ x_ : Us.S, x_ = o → True) := by
  obtain ⟨cs, rfl, hsz⟩ := okWide_struct Try.underlying45 hv
  obtain ⟨fuel, hf⟩ := h
  obtain ⟨o, e, hok⟩ := trod_status hf
  have e : cs.toList = Us.S.cells o := e
  exact ⟨o, by rw [← e], hok⟩
theorem trod_act {H : Type} {enc : TypeId × Value → H} {W : World} {base : Nat} {spare : Nat → Bool} {held : Bool} {fuel : Nat} {cs : List Value} {x : DataW H × List MemPlace} (h : DataW.trod enc Try.prog W base spare held fuel 47 cs = some x) : ∃ o : Us.Act, cs = Us.Act.cells o ∧ 0 ≤ Us.Act.k o := by
  obtain ⟨xs, n, _, _, hlen, hxl, hg⟩ := DataW.trod_struct Try.underlying47 h
  have hl : cs.length = 13 := hlen.trans (by kernel_rfl)
  match cs, hl with
  | [c0, c1, c2, c3, c4, c5, c6, c7, c8, c9, c10, c11, c12], _ =>
    have h0 := hg 0 _ rfl
    obtain ⟨y0, hy0⟩ : ∃ y, xs[0]? = some y := ⟨xs[0]'(by have := hxl; simp at this; omega), List.getElem?_eq_getElem _⟩
    rw [hy0] at h0
    have h0 : DataW.trod enc Try.prog W base spare held n 5 [c0] = some y0 := h0
    obtain ⟨k0, f0, _, g0⟩ := DataW.trod_int Try.underlying5 h0
    obtain rfl := (List.cons.inj f0).1
    have h1 := hg 1 _ rfl
    obtain ⟨y1, hy1⟩ : ∃ y, xs[1]? = some y := ⟨xs[1]'(by have := hxl; simp at this; omega), List.getElem?_eq_getElem _⟩
    rw [hy1] at h1
    have h1 : DataW.trod enc Try.prog W base spare held n 45 [c1, c2, c3, c4, c5] = some y1 := h1
    obtain ⟨k1, f1, g1⟩ := trod_status h1
    obtain ⟨rfl, rfl, rfl, rfl, rfl⟩ : c1 = .int .i64 k1.u ∧ c2 = .int .i64 k1.q ∧ c3 = .int .i64 k1.s ∧ c4 = .int .i64 k1.n ∧ c5 = .int .i64 k1.e := by simpa [Us.S.cells] using f1
    have h2 := hg 2 _ rfl
    obtain ⟨y2, hy2⟩ : ∃ y, xs[2]? = some y := ⟨xs[2]'(by have := hxl; simp at this; omega), List.getElem?_eq_getElem _⟩
    rw [hy2] at h2
    have h2 : DataW.trod enc Try.prog W base spare held n 3 [c6] = some y2 := h2
    obtain ⟨k2, f2, _, g2⟩ := DataW.trod_int Try.underlying3 h2
    obtain rfl := (List.cons.inj f2).1
    have h3 := hg 3 _ rfl
    obtain ⟨y3, hy3⟩ : ∃ y, xs[3]? = some y := ⟨xs[3]'(by have := hxl; simp at this; omega), List.getElem?_eq_getElem _⟩
    rw [hy3] at h3
    have h3 : DataW.trod enc Try.prog W base spare held n 3 [c7] = some y3 := h3
    obtain ⟨k3, f3, _, g3⟩ := DataW.trod_int Try.underlying3 h3
    obtain rfl := (List.cons.inj f3).1
    have h4 := hg 4 _ rfl
    obtain ⟨y4, hy4⟩ : ∃ y, xs[4]? = some y := ⟨xs[4]'(by have := hxl; simp at this; omega), List.getElem?_eq_getElem _⟩
    rw [hy4] at h4
    have h4 : DataW.trod enc Try.prog W base spare held n 2 [c8] = some y4 := h4
    obtain ⟨k4, f4, _, g4⟩ := DataW.trod_int Try.underlying2 h4
    obtain rfl := (List.cons.inj f4).1
    have h5 := hg 5 _ rfl
    obtain ⟨y5, hy5⟩ : ∃ y, xs[5]? = some y := ⟨xs[5]'(by have := hxl; simp at this; omega), List.getElem?_eq_getElem _⟩
    rw [hy5] at h5
    have h5 : DataW.trod enc Try.prog W base spare held n 2 [c9] = some y5 := h5
    obtain ⟨k5, f5, _, g5⟩ := DataW.trod_int Try.underlying2 h5
    obtain rfl := (List.cons.inj f5).1
    have h6 := hg 6 _ rfl
    obtain ⟨y6, hy6⟩ : ∃ y, xs[6]? = some y := ⟨xs[6]'(by have := hxl; simp at this; omega), List.getElem?_eq_getElem _⟩
    rw [hy6] at h6
    have h6 : DataW.trod enc Try.prog W base spare held n 2 [c10] = some y6 := h6
    obtain ⟨k6, f6, _, g6⟩ := DataW.trod_int Try.underlying2 h6
    obtain rfl := (List.cons.inj f6).1
    have h7 := hg 7 _ rfl
    obtain ⟨y7, hy7⟩ : ∃ y, xs[7]? = some y := ⟨xs[7]'(by have := hxl; simp at this; omega), List.getElem?_eq_getElem _⟩
    rw [hy7] at h7
    have h7 : DataW.trod enc Try.prog W base spare held n 2 [c11] = some y7 := h7
    obtain ⟨k7, f7, _, g7⟩ := DataW.trod_int Try.underlying2 h7
    obtain rfl := (List.cons.inj f7).1
    have h8 := hg 8 _ rfl
    obtain ⟨y8, hy8⟩ : ∃ y, xs[8]? = some y := ⟨xs[8]'(by have := hxl; simp at this; omega), List.getElem?_eq_getElem _⟩
    rw [hy8] at h8
    have h8 : DataW.trod enc Try.prog W base spare held n 2 [c12] = some y8 := h8
    obtain ⟨k8, f8, _, g8⟩ := DataW.trod_int Try.underlying2 h8
    obtain rfl := (List.cons.inj f8).1
    exact ⟨⟨k0, k1, k2, k3, k4, k5, k6, k7, k8⟩, rfl, (u8_wf g0).1⟩
theorem open_acts {H : Type} {enc : TypeId × Value → H} {W : World} {r : Reach} {b0 : Nat} {v : Value} {d : DataW H} {p : List MemPlace} (hv : Value.okWide Try.prog W r b0 43 v)
    (h : DataW.Trod enc Try.prog W 0 (fun _ => true) true 43 v d p) :
    ∃ (A : Option Addr) (l : List Us.Act) (c : Nat), v = .slice A l.length c ∧ Rd W A (l.flatMap Us.Act.cells) ∧ l.length ≤ c ∧ c ≤ maxLen ∧ ∀ o ∈ l, 0 ≤ Us.Act.k o := by
  obtain ⟨a, len, cap, rfl⟩ := okWide_slice Try.underlying43 hv
  obtain ⟨fuel, hf⟩ := h
  rcases open_slice Try.underlying43 hf with ⟨hcs, _⟩ | ⟨x, l', c', m, n, D, Pl, hcs, _, hl, hm, hmm, _, hi⟩
  · simp [Value.cells] at hcs
    obtain ⟨rfl, rfl, rfl⟩ := hcs
    exact ⟨none, [], 0, rfl, Rd.nil _ _, by simp, by unfold maxLen; omega, by simp⟩
  · simp [Value.cells] at hcs
    obtain ⟨rfl, rfl, rfl⟩ := hcs
    have hm' : m = cap := by simpa using hmm
    subst hm'
    have step : ∀ i, i < len → ∃ q : Us.Act, (∀ (j : Nat) (u : Value), (Us.Act.cells q)[j]? = some u → W.cell? (x.add (i * 13 + j)) = some u) ∧ 0 ≤ Us.Act.k q := by
      intro i hil
      obtain ⟨cs', hc, ht'⟩ := hi i (by omega)
      obtain ⟨q, e, hok⟩ := trod_act ht'
      obtain ⟨_, hcl, hat⟩ := World.cells?_some hc
      refine ⟨q, fun j u hj => ?_, hok⟩
      have hcz : Try.prog.cellsOf 47 = 13 := by kernel_rfl
      rw [hcz] at hat hcl
      have hjl : j < cs'.length := by rw [e]; exact (List.getElem?_eq_some_iff.1 hj).1
      rw [← add_of_add, hat j (by omega), e]; exact hj
    obtain ⟨qs, hql, hq⟩ := list_of len step
    refine ⟨some x, qs, m, by rw [hql], ?_, by omega, hm, ?_⟩
    · exact Fw.rdOf (m := 13) (fun _ => rfl) (by decide) fun k hk => (hq k hk).1
    · intro a ha
      obtain ⟨k, hk, rfl⟩ := List.getElem_of_mem ha
      exact (hq k hk).2
theorem open_three {H : Type} {enc : TypeId × Value → H} {W : World} {r : Reach} {b0 : Nat} {v : Value} {d : DataW H} {p : List MemPlace} (hv : Value.okWide Try.prog W r b0 57 v)
    (h : DataW.Trod enc Try.prog W 0 (fun _ => true) true 57 v d p) : ∃ a b c : Int, v = .agg #[.int .i64 a, .int .i64 b, .int .i64 c] := by
  have ⟨cs, e1, e2⟩ : ∃ cs, v = .agg cs ∧ cs.size = Try.prog.cellsOf 57 := by
    simp only [Value.okWide, Try.underlying57] at hv
    obtain ⟨cs, h1, h2, _⟩ := hv
    exact ⟨cs, h1, h2⟩
  subst e1
  obtain ⟨fuel, hf⟩ := h
  have hce : Try.prog.cellsOf 2 = 1 := by kernel_rfl
  obtain ⟨xs, n, _, _, _, hxl, hg⟩ := DataW.trod_array Try.underlying57 hf
  obtain ⟨l⟩ := cs
  have hl : l.length = 3 := e2.trans (by kernel_rfl)
  match l, hl with
  | [c0, c1, c2], _ =>
    rw [hce] at hg
    have h0 := hg 0 (by decide)
    have h1 := hg 1 (by decide)
    have h2 := hg 2 (by decide)
    rw [List.getElem?_eq_getElem (by omega)] at h0 h1 h2
    obtain ⟨k0, f0, _⟩ := DataW.trod_int Try.underlying2 h0
    obtain ⟨k1, f1, _⟩ := DataW.trod_int Try.underlying2 h1
    obtain ⟨k2, f2, _⟩ := DataW.trod_int Try.underlying2 h2
    obtain rfl := (List.cons.inj f0).1
    obtain rfl := (List.cons.inj f1).1
    obtain rfl := (List.cons.inj f2).1
    exact ⟨_, _, _, rfl⟩
end Go.Proofs.Ytmohhociomghhaa
