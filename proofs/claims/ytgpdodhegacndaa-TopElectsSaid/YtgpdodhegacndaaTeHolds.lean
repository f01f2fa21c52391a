/- For every input TopElects returns true: voters with durable vote records elect at most one candidate in each term. -/
import Derived.Test.YtgpdodhegacndaaTf
import Derived.Test.YtgpdodhegacndaaOpen
import Derived.Test.YtgpdodhegacndaaFrame
namespace Go.Proofs.Ytgpdodhegacndaa
set_option linter.unusedSimpArgs false
set_option linter.unusedVariables false
open Go.ChangeShapes Go.WideShapes Go.Deep Go.RowKit Go.ChangeAt
set_option maxRecDepth 100000

theorem i64_wf {n : Int} (h : (Lit.int .i64 n).wf = true) : -9223372036854775808 ≤ n ∧ n ≤ 9223372036854775807 := by have := bounds_i64 h; omega
theorem u64_lt {n : Int} (h : (Lit.int .u64 n).wf = true) : 0 ≤ n ∧ n < 18446744073709551616 := by have := bounds_u64 h; omega
theorem u8_wf {n : Int} (h : (Lit.int .u8 n).wf = true) : 0 ≤ n ∧ n < 256 := by have := bounds_u8 h; omega
theorem pl_ok {a b c e : Int} {d : Bool} (h0 : 0 ≤ a ∧ a < 256) (h1 : 0 ≤ b ∧ b < 256) (h2 : 0 ≤ c ∧ c < 256) (h4 : 0 ≤ e ∧ e < 256) : El.Pl.ok ⟨a, b, c, d, e⟩ := by
  unfold El.Pl.ok
  exact ⟨⟨h0.1, by show a ≤ 255; omega⟩, ⟨h1.1, by show b ≤ 255; omega⟩, ⟨h2.1, by show c ≤ 255; omega⟩, ⟨h4.1, by show e ≤ 255; omega⟩⟩
theorem trod_poll {H : Type} {enc : TypeId × Value → H} {W : World} {base : Nat} {spare : Nat → Bool} {held : Bool} {fuel : Nat} {cs : List Value} {x : DataW H × List MemPlace} (h : DataW.trod enc Try.prog W base spare held fuel 43 cs = some x) : ∃ o : El.Pl, cs = El.Pl.cells o ∧ El.Pl.ok o := by
  obtain ⟨xs, n, _, _, hlen, hxl, hg⟩ := DataW.trod_struct Try.underlying43 h
  have hl : cs.length = 5 := hlen.trans (by kernel_rfl)
  match cs, hl with
  | [c0, c1, c2, c3, c4], _ =>
    have h0 := hg 0 _ rfl
    obtain ⟨y0, hy0⟩ : ∃ y, xs[0]? = some y := ⟨xs[0]'(by have := hxl; simp at this; omega), List.getElem?_eq_getElem _⟩
    rw [hy0] at h0
    have h0 : DataW.trod enc Try.prog W base spare held n 5 [c0] = some y0 := h0
    obtain ⟨k0, f0, _, g0⟩ := DataW.trod_int Try.underlying5 h0
    obtain rfl := (List.cons.inj f0).1
    have h1 := hg 1 _ rfl
    obtain ⟨y1, hy1⟩ : ∃ y, xs[1]? = some y := ⟨xs[1]'(by have := hxl; simp at this; omega), List.getElem?_eq_getElem _⟩
    rw [hy1] at h1
    have h1 : DataW.trod enc Try.prog W base spare held n 5 [c1] = some y1 := h1
    obtain ⟨k1, f1, _, g1⟩ := DataW.trod_int Try.underlying5 h1
    obtain rfl := (List.cons.inj f1).1
    have h2 := hg 2 _ rfl
    obtain ⟨y2, hy2⟩ : ∃ y, xs[2]? = some y := ⟨xs[2]'(by have := hxl; simp at this; omega), List.getElem?_eq_getElem _⟩
    rw [hy2] at h2
    have h2 : DataW.trod enc Try.prog W base spare held n 5 [c2] = some y2 := h2
    obtain ⟨k2, f2, _, g2⟩ := DataW.trod_int Try.underlying5 h2
    obtain rfl := (List.cons.inj f2).1
    have h3 := hg 3 _ rfl
    obtain ⟨y3, hy3⟩ : ∃ y, xs[3]? = some y := ⟨xs[3]'(by have := hxl; simp at this; omega), List.getElem?_eq_getElem _⟩
    rw [hy3] at h3
    have h3 : DataW.trod enc Try.prog W base spare held n 4 [c3] = some y3 := h3
    obtain ⟨k3, f3, _⟩ := DataW.trod_bool Try.underlying4 h3
    obtain rfl := (List.cons.inj f3).1
    have h4 := hg 4 _ rfl
    obtain ⟨y4, hy4⟩ : ∃ y, xs[4]? = some y := ⟨xs[4]'(by have := hxl; simp at this; omega), List.getElem?_eq_getElem _⟩
    rw [hy4] at h4
    have h4 : DataW.trod enc Try.prog W base spare held n 5 [c4] = some y4 := h4
    obtain ⟨k4, f4, _, g4⟩ := DataW.trod_int Try.underlying5 h4
    obtain rfl := (List.cons.inj f4).1
    exact ⟨⟨k0, k1, k2, k3, k4⟩, rfl, pl_ok (u8_wf g0) (u8_wf g1) (u8_wf g2) (u8_wf g4)⟩
theorem open_polls {H : Type} {enc : TypeId × Value → H} {W : World} {r : Reach} {b0 : Nat} {v : Value} {d : DataW H} {p : List MemPlace} (hv : Value.okWide Try.prog W r b0 22 v)
    (h : DataW.Trod enc Try.prog W 0 (fun _ => true) true 22 v d p) :
    ∃ (A : Option Addr) (l : List El.Pl) (c : Nat), v = .slice A l.length c ∧ Rd W A (l.flatMap El.Pl.cells) ∧ l.length ≤ c ∧ c ≤ maxLen ∧ ∀ o ∈ l, El.Pl.ok o := by
  obtain ⟨a, len, cap, rfl⟩ := okWide_slice Try.underlying22 hv
  obtain ⟨fuel, hf⟩ := h
  rcases open_slice Try.underlying22 hf with ⟨hcs, _⟩ | ⟨x, l', c', m, n, D, Pl, hcs, _, hl, hm, hmm, _, hi⟩
  · simp [Value.cells] at hcs
    obtain ⟨rfl, rfl, rfl⟩ := hcs
    exact ⟨none, [], 0, rfl, Rd.nil _ _, by simp, by unfold maxLen; omega, by simp⟩
  · simp [Value.cells] at hcs
    obtain ⟨rfl, rfl, rfl⟩ := hcs
    have hm' : m = cap := by simpa using hmm
    subst hm'
    have step : ∀ i, i < len → ∃ q : El.Pl, (∀ (j : Nat) (u : Value), (El.Pl.cells q)[j]? = some u → W.cell? (x.add (i * 5 + j)) = some u) ∧ El.Pl.ok q := by
      intro i hil
      obtain ⟨cs', hc, ht'⟩ := hi i (by omega)
      obtain ⟨q, e, hok⟩ := trod_poll ht'
      obtain ⟨_, hcl, hat⟩ := World.cells?_some hc
      refine ⟨q, fun j u hj => ?_, hok⟩
      have hcz : Try.prog.cellsOf 43 = 5 := by kernel_rfl
      rw [hcz] at hat hcl
      have hjl : j < cs'.length := by rw [e]; exact (List.getElem?_eq_some_iff.1 hj).1
      rw [← add_of_add, hat j (by omega), e]; exact hj
    obtain ⟨qs, hql, hq⟩ := list_of len step
    refine ⟨some x, qs, m, by rw [hql], ?_, by omega, hm, ?_⟩
    · exact Fw.rdOf (m := 5) (fun _ => rfl) (by decide) fun k hk => (hq k hk).1
    · intro a ha
      obtain ⟨k, hk, rfl⟩ := List.getElem_of_mem ha
      exact (hq k hk).2
set_option maxRecDepth 100000 in
theorem topElects_lifted (os : Os) (started : os.Started) (H : Type) (enc : TypeId × Value → H) :
    ReturnsInHanded {} Try.checked os 3 .any (Rows.topElectsSpec.pre6 enc Try.prog Try.f3 Rows.topElectsRow.domain false) (Rows.topElectsSpec.post enc Try.prog Try.f3 false true false false) := by
  refine returnsInHanded_of_change (C := Try.checked) own started (by kernel_rfl) Try.func3
    (ChangeSpec.witness6 (enc := enc) (C := Try.checked) false ⟨#[], #[.slice none 0 0, .slice none 0 0], []⟩ 8 (by kernel_rfl) (by kernel_rfl) (by kernel_rfl) (by kernel_rfl)) ?_
  intro W base args ds gs before hval0 hW hcnd _
  have hval : ∀ (j : Nat) t v, Try.f3.params[j]? = some t → args[j]? = some v → Value.okWide Try.prog W .any base t v := hval0
  have hW' := hW
  obtain ⟨p, q, hA0, hV, rfl, hfz, hnd⟩ := hW
  have hA : DataW.TrodAll enc Try.prog W 0 (fun _ => true) true Try.f3.params.toList args.toList ds p := hA0
  rw [Try.params3] at hA hval
  obtain ⟨v0, vs0, d0, ds0, p0, q0, hargs, rfl, rfl, h0, r0⟩ := trodAll_cons hA
  obtain ⟨v1, vs1, d1, ds1, p1, q1, rfl, rfl, rfl, h1, r1⟩ := trodAll_cons r0
  obtain ⟨rfl, rfl, rfl⟩ := trodAll_nil r1
  obtain rfl : args = #[v0, v1] := by cases args; simp_all
  obtain ⟨rfl, rfl⟩ := trodVars_none hV
  have k0 := h0
  have lt0 : ∀ x ∈ p0, x.block < W.heap.size := by obtain ⟨m, hm⟩ := k0; exact DataW.trod_lt m _ _ _ hm
  have k1 := h1
  have lt1 : ∀ x ∈ p1, x.block < W.heap.size := by obtain ⟨m, hm⟩ := k1; exact DataW.trod_lt m _ _ _ hm
  obtain ⟨a0, l0, c0, rfl, r0_, m0, n0, g0⟩ := open_polls (hval 0 22 v0 rfl rfl) h0
  obtain ⟨a1, l1, c1, rfl, r1_, w1, m1, n1⟩ := open_row Try.underlying23 Try.underlying3 (by kernel_rfl) (hval 1 23 v1 rfl rfl) h1
  clear hA0 hval0
  refine (elects_any W a0 l0 c0 r0_ g0 a1 l1 c1 r1_).mono fun e W' ⟨he, bel⟩ => ?_
  subst he
  exact ⟨_, rfl, _, _, _, [], _, [], hW', trodAll_mk1 (shut_bool Try.underlying4 _), (trodAll_cons_mk (Below.trod laidOut (by kernel_rfl) (of_decide_eq_true (by kernel_rfl)) k0 bel lt0) (trodAll_cons_mk (Below.trod laidOut (by kernel_rfl) (of_decide_eq_true (by kernel_rfl)) k1 bel lt1) trodAll_mk0)), rfl, bel.frame _, fun h => by cases h⟩

/-- For every input TopElects returns true, and its arguments read as before. -/
theorem topElects_holds : Rows.TopElectsSaid :=
  OpenClaim.holds_of_wide 3 Try.f3 rfl rfl rfl rfl rfl rfl rfl ⟨rfl, rfl, rfl, rfl, rfl⟩ rfl rfl rfl rfl rfl (by kernel_rfl) Try.func3 (by kernel_rfl)
    (of_decide_eq_true (by kernel_rfl)) (by unfold Func.isWrapper; first | (rw [if_pos (by decide +kernel)]; kernel_rfl) | (rw [if_neg (by decide +kernel)]; exact ⟨rfl, rfl⟩))
    (fun os started H enc _ => topElects_lifted os started H enc)

end Go.Proofs.Ytgpdodhegacndaa
