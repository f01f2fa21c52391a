/- For every input TopTalks returns true. -/
import Derived.Test.YtpoacekefhblhaaTkQ
import Derived.Test.YtpoacekefhblhaaOpen
import Derived.Test.YtpoacekefhblhaaFrame
namespace Go.Proofs.Ytpoacekefhblhaa
set_option linter.unusedSimpArgs false
set_option linter.unusedVariables false
open Go.ChangeShapes Go.WideShapes Go.Deep Go.RowKit Go.ChangeAt
set_option maxRecDepth 100000

theorem trod_answer {H : Type} {enc : TypeId × Value → H} {W : World} {fuel : Nat} {cs : List Value} {x : DataW H × List MemPlace} (h : DataW.trod enc Try.prog W 0 (fun _ => true) true fuel 68 cs = some x) : ∃ o : Tk.An, cs = Tk.An.cells o := by
  obtain ⟨xs, n, _, _, hlen, hxl, hg⟩ := DataW.trod_struct Try.underlying68 h
  have hl : cs.length = 4 := hlen.trans (by kernel_rfl)
  match cs, hl with
  | [c0, c1, c2, c3], _ =>
    have h0 := hg 0 _ rfl
    obtain ⟨y0, hy0⟩ : ∃ y, xs[0]? = some y := ⟨xs[0]'(by have := hxl; simp at this; omega), List.getElem?_eq_getElem _⟩
    rw [hy0] at h0
    have h0 : DataW.trod enc Try.prog W 0 (fun _ => true) true n 9 [c0] = some y0 := h0
    obtain ⟨k0, f0, _⟩ := DataW.trod_string Try.underlying9 h0
    obtain rfl := (List.cons.inj f0).1
    have h1 := hg 1 _ rfl
    obtain ⟨y1, hy1⟩ : ∃ y, xs[1]? = some y := ⟨xs[1]'(by have := hxl; simp at this; omega), List.getElem?_eq_getElem _⟩
    rw [hy1] at h1
    have h1 : DataW.trod enc Try.prog W 0 (fun _ => true) true n 3 [c1] = some y1 := h1
    obtain ⟨k1, f1, _⟩ := DataW.trod_int Try.underlying3 h1
    obtain rfl := (List.cons.inj f1).1
    have h2 := hg 2 _ rfl
    obtain ⟨y2, hy2⟩ : ∃ y, xs[2]? = some y := ⟨xs[2]'(by have := hxl; simp at this; omega), List.getElem?_eq_getElem _⟩
    rw [hy2] at h2
    have h2 : DataW.trod enc Try.prog W 0 (fun _ => true) true n 3 [c2] = some y2 := h2
    obtain ⟨k2, f2, _⟩ := DataW.trod_int Try.underlying3 h2
    obtain rfl := (List.cons.inj f2).1
    have h3 := hg 3 _ rfl
    obtain ⟨y3, hy3⟩ : ∃ y, xs[3]? = some y := ⟨xs[3]'(by have := hxl; simp at this; omega), List.getElem?_eq_getElem _⟩
    rw [hy3] at h3
    have h3 : DataW.trod enc Try.prog W 0 (fun _ => true) true n 9 [c3] = some y3 := h3
    obtain ⟨k3, f3, _⟩ := DataW.trod_string Try.underlying9 h3
    obtain rfl := (List.cons.inj f3).1
    exact ⟨⟨k0, k1, k2, k3⟩, rfl⟩
theorem trod_answers {H : Type} {enc : TypeId × Value → H} {W : World} {fuel : Nat} {v : Value} {y : DataW H × List MemPlace} (h : DataW.trod enc Try.prog W 0 (fun _ => true) true fuel 28 [v] = some y) : ∃ (A : Option Addr) (l : List Tk.An) (c : Nat), v = .slice A l.length c ∧ Rd W A (l.flatMap Tk.An.cells) := by
  rcases open_slice Try.underlying28 h with ⟨hcs, _⟩ | ⟨x, len, c', m, n, D, Pl, hcs, _, hl, hm, hmm, _, hi⟩
  · simp at hcs
    exact ⟨none, [], 0, hcs, Rd.nil _ _⟩
  · simp at hcs
    have hm' : m = c' := by simpa using hmm
    subst hm'
    have step : ∀ i, i < len → ∃ q : Tk.An, (∀ (j : Nat) (u : Value), (Tk.An.cells q)[j]? = some u → W.cell? (x.add (i * 4 + j)) = some u) := by
      intro i hil
      obtain ⟨cs', hc, ht'⟩ := hi i (by omega)
      obtain ⟨q, e⟩ := trod_answer ht'
      obtain ⟨_, hcl, hat⟩ := World.cells?_some hc
      refine ⟨q, fun j u hj => ?_⟩
      have hcz : Try.prog.cellsOf 68 = 4 := by kernel_rfl
      rw [hcz] at hat hcl
      have hjl : j < cs'.length := by rw [e]; exact (List.getElem?_eq_some_iff.1 hj).1
      rw [← add_of_add, hat j (by omega), e]; exact hj
    obtain ⟨qs, hql, hq⟩ := list_of len step
    refine ⟨some x, qs, m, by rw [hql]; exact hcs, ?_⟩
    · exact Fw.rdOf (m := 4) (fun _ => rfl) (by decide) fun k hk => hq k hk
theorem trod_question {H : Type} {enc : TypeId × Value → H} {W : World} {fuel : Nat} {cs : List Value} {x : DataW H × List MemPlace} (h : DataW.trod enc Try.prog W 0 (fun _ => true) true fuel 30 cs = some x) : ∃ o : Tk.Qu, cs = Tk.Qu.cells o ∧ Rd W o.A (o.an.flatMap Tk.An.cells) := by
  obtain ⟨xs, n, _, _, hlen, hxl, hg⟩ := DataW.trod_struct Try.underlying30 h
  have hl : cs.length = 2 := hlen.trans (by kernel_rfl)
  match cs, hl with
  | [c0, c1], _ =>
    have h0 := hg 0 _ rfl
    obtain ⟨y0, hy0⟩ : ∃ y, xs[0]? = some y := ⟨xs[0]'(by have := hxl; simp at this; omega), List.getElem?_eq_getElem _⟩
    rw [hy0] at h0
    have h0 : DataW.trod enc Try.prog W 0 (fun _ => true) true n 9 [c0] = some y0 := h0
    obtain ⟨k0, f0, _⟩ := DataW.trod_string Try.underlying9 h0
    obtain rfl := (List.cons.inj f0).1
    have h1 := hg 1 _ rfl
    obtain ⟨y1, hy1⟩ : ∃ y, xs[1]? = some y := ⟨xs[1]'(by have := hxl; simp at this; omega), List.getElem?_eq_getElem _⟩
    rw [hy1] at h1
    have h1 : DataW.trod enc Try.prog W 0 (fun _ => true) true n 28 [c1] = some y1 := h1
    obtain ⟨A1, l1, q1, rfl, r1⟩ := trod_answers h1
    exact ⟨⟨k0, A1, q1, l1⟩, rfl, r1⟩
theorem trod_questions {H : Type} {enc : TypeId × Value → H} {W : World} {fuel : Nat} {v : Value} {y : DataW H × List MemPlace} (h : DataW.trod enc Try.prog W 0 (fun _ => true) true fuel 22 [v] = some y) : ∃ (A : Option Addr) (l : List Tk.Qu) (c : Nat), v = .slice A l.length c ∧ Rd W A (l.flatMap Tk.Qu.cells) ∧ ∀ q ∈ l, Rd W q.A (q.an.flatMap Tk.An.cells) := by
  rcases open_slice Try.underlying22 h with ⟨hcs, _⟩ | ⟨x, len, c', m, n, D, Pl, hcs, _, hl, hm, hmm, _, hi⟩
  · simp at hcs
    exact ⟨none, [], 0, hcs, Rd.nil _ _, (fun q h => by cases h)⟩
  · simp at hcs
    have hm' : m = c' := by simpa using hmm
    subst hm'
    have step : ∀ i, i < len → ∃ q : Tk.Qu, (∀ (j : Nat) (u : Value), (Tk.Qu.cells q)[j]? = some u → W.cell? (x.add (i * 2 + j)) = some u) ∧ Rd W q.A (q.an.flatMap Tk.An.cells) := by
      intro i hil
      obtain ⟨cs', hc, ht'⟩ := hi i (by omega)
      obtain ⟨q, e, hok⟩ := trod_question ht'
      obtain ⟨_, hcl, hat⟩ := World.cells?_some hc
      refine ⟨q, fun j u hj => ?_, hok⟩
      have hcz : Try.prog.cellsOf 30 = 2 := by kernel_rfl
      rw [hcz] at hat hcl
      have hjl : j < cs'.length := by rw [e]; exact (List.getElem?_eq_some_iff.1 hj).1
      rw [← add_of_add, hat j (by omega), e]; exact hj
    obtain ⟨qs, hql, hq⟩ := list_of len step
    refine ⟨some x, qs, m, by rw [hql]; exact hcs, ?_, ?_⟩
    · exact Fw.rdOf (m := 2) (fun _ => rfl) (by decide) fun k hk => (hq k hk).1
    · intro a ha
      obtain ⟨k, hk, rfl⟩ := List.getElem_of_mem ha
      exact (hq k hk).2
theorem trod_qsAt {H : Type} {enc : TypeId × Value → H} {W : World} {fuel : Nat} {v : Value} {y : DataW H × List MemPlace} (h : DataW.trod enc Try.prog W 0 (fun _ => true) true fuel 22 [v] = some y) : ∃ (A : Option Addr) (l : List Tk.Qu) (c : Nat), v = .slice A l.length c ∧ Tk.QsAt W A l := by
  obtain ⟨A, l, c, e, h1, h2⟩ := trod_questions h
  exact ⟨A, l, c, e, h1, h2⟩
theorem trod_protocol {H : Type} {enc : TypeId × Value → H} {W : World} {fuel : Nat} {cs : List Value} {x : DataW H × List MemPlace} (h : DataW.trod enc Try.prog W 0 (fun _ => true) true fuel 24 cs = some x) : ∃ nm ver T qs cq, cs = [.string nm, .int .i64 ver, .slice T (qs : List Tk.Qu).length cq] ∧ Tk.QsAt W T qs := by
  obtain ⟨xs, n, _, _, hlen, hxl, hg⟩ := DataW.trod_struct Try.underlying24 h
  have hl : cs.length = 3 := hlen.trans (by kernel_rfl)
  match cs, hl with
  | [c0, c1, c2], _ =>
    have h0 := hg 0 _ rfl
    obtain ⟨y0, hy0⟩ : ∃ y, xs[0]? = some y := ⟨xs[0]'(by have := hxl; simp at this; omega), List.getElem?_eq_getElem _⟩
    rw [hy0] at h0
    have h0 : DataW.trod enc Try.prog W 0 (fun _ => true) true n 9 [c0] = some y0 := h0
    obtain ⟨k0, f0, _⟩ := DataW.trod_string Try.underlying9 h0
    obtain rfl := (List.cons.inj f0).1
    have h1 := hg 1 _ rfl
    obtain ⟨y1, hy1⟩ : ∃ y, xs[1]? = some y := ⟨xs[1]'(by have := hxl; simp at this; omega), List.getElem?_eq_getElem _⟩
    rw [hy1] at h1
    have h1 : DataW.trod enc Try.prog W 0 (fun _ => true) true n 3 [c1] = some y1 := h1
    obtain ⟨k1, f1, _⟩ := DataW.trod_int Try.underlying3 h1
    obtain rfl := (List.cons.inj f1).1
    have h2 := hg 2 _ rfl
    obtain ⟨y2, hy2⟩ : ∃ y, xs[2]? = some y := ⟨xs[2]'(by have := hxl; simp at this; omega), List.getElem?_eq_getElem _⟩
    rw [hy2] at h2
    have h2 : DataW.trod enc Try.prog W 0 (fun _ => true) true n 22 [c2] = some y2 := h2
    obtain ⟨A2, l2, q2, rfl, r2⟩ := trod_qsAt h2
    exact ⟨k0, k1, A2, l2, q2, rfl, r2⟩
theorem open_protocol {H : Type} {enc : TypeId × Value → H} {W : World} {r : Reach} {b0 : Nat} {v : Value} {d : DataW H} {p : List MemPlace} (hv : Value.okWide Try.prog W r b0 24 v)
    (h : DataW.Trod enc Try.prog W 0 (fun _ => true) true 24 v d p) : ∃ nm ver T qs cq, v = .agg #[.string nm, .int .i64 ver, .slice T (qs : List Tk.Qu).length cq] ∧ Tk.QsAt W T qs := by
  obtain ⟨cs, rfl, hsz⟩ := okWide_struct Try.underlying24 hv
  obtain ⟨fuel, hf⟩ := h
  obtain ⟨nm, ver, T, qs, cq, e, hq⟩ := trod_protocol hf
  have e : cs.toList = _ := e
  exact ⟨nm, ver, T, qs, cq, by rw [← Array.toArray_toList (xs := cs), e], hq⟩
theorem open_bools {H : Type} {enc : TypeId × Value → H} {W : World} {r : Reach} {b0 : Nat} {v : Value} {d : DataW H} {p : List MemPlace} (hv : Value.okWide Try.prog W r b0 26 v)
    (h : DataW.Trod enc Try.prog W 0 (fun _ => true) true 26 v d p) : ∃ (A : Option Addr) (l : List Bool) (c : Nat), v = .slice A l.length c ∧ Rd W A (l.map .bool) := by
  obtain ⟨a, len, cap, rfl⟩ := okWide_slice Try.underlying26 hv
  obtain ⟨fuel, hf⟩ := h
  rcases open_slice Try.underlying26 hf with ⟨hcs, _⟩ | ⟨x, l', c', m, n, D, Pl, hcs, _, hl, hm, hmm, _, hi⟩
  · simp [Value.cells] at hcs
    obtain ⟨rfl, rfl, rfl⟩ := hcs
    exact ⟨none, [], 0, rfl, Rd.nil _ _⟩
  · simp [Value.cells] at hcs
    obtain ⟨rfl, rfl, rfl⟩ := hcs
    have hm' : m = cap := by simpa using hmm
    subst hm'
    have hcz : Try.prog.cellsOf 4 = 1 := by kernel_rfl
    have step : ∀ i, i < len → ∃ q : Bool, W.cell? (x.add i) = some (.bool q) := by
      intro i hil
      obtain ⟨cs', hc, ht'⟩ := hi i (by omega)
      obtain ⟨_, hcl, hat⟩ := World.cells?_some hc
      rw [hcz] at hat hcl
      have hc0 := hat 0 (by omega)
      match cs', hcl with
      | [c0], _ =>
        obtain ⟨q, f0, _⟩ := DataW.trod_bool Try.underlying4 ht'
        obtain rfl := (List.cons.inj f0).1
        refine ⟨q, ?_⟩
        rw [Nat.mul_one] at hc0
        simpa [Addr.add] using hc0
    obtain ⟨qs, hql, hq⟩ := list_of len step
    refine ⟨some x, qs, m, by rw [hql], fun j v hj => ⟨x, rfl, ?_⟩⟩
    rw [List.getElem?_map] at hj
    cases hqj : qs[j]? with
    | none => rw [hqj] at hj; cases hj
    | some q =>
      rw [hqj] at hj
      simp only [Option.map_some, Option.some.injEq] at hj
      subst hj
      obtain ⟨hjl, rfl⟩ := List.getElem?_eq_some_iff.1 hqj
      exact hq j hjl
theorem talks_any (w : World) (nm : ByteArray) (ver : Int) (Tq : Option Addr) (qs : List Tk.Qu) (cq : Nat) (hq : Tk.QsAt w Tq qs) (Sa : Option Addr) (sd : List Int) (sc : Nat) (hsd : Rd w Sa (sd.map (.int .u8))) (hby : ∀ x ∈ sd, 0 ≤ x ∧ x < 256) (Ba : Option Addr) (bk : List Bool) (bc : Nat) (hbk : Rd w Ba (bk.map .bool)) : Calls Try.prog 3 #[.agg #[.string nm, .int .i64 ver, .slice Tq qs.length cq], .slice Sa sd.length sc, .slice Ba bk.length bc] w fun e_ w' => e_ = .returned (.bool true) ∧ Below w.heap.size w w' := by
  by_cases hg : Tk.Good nm ver qs
  · exact talksYes_any w nm ver Tq qs cq hq Sa sd sc hsd hby Ba bk bc hbk hg
  · exact talksNo_any w nm ver Tq qs cq hq Sa sd sc hsd hby Ba bk bc hbk hg
set_option maxRecDepth 100000 in
theorem topTalks_lifted (os : Os) (started : os.Started) (H : Type) (enc : TypeId × Value → H) :
    ReturnsInHanded {} Try.checked os 3 .any (Rows.topTalksSpec.pre6 enc Try.prog Try.f3 Rows.topTalksRow.domain false) (Rows.topTalksSpec.post enc Try.prog Try.f3 false true false false) := by
  refine returnsInHanded_of_change (C := Try.checked) own started (by kernel_rfl) Try.func3
    (ChangeSpec.witness6 (enc := enc) (C := Try.checked) false ⟨#[], #[.agg #[.string ByteArray.empty, .int .i64 0, .slice none 0 0], .slice none 0 0, .slice none 0 0], []⟩ 8 (by kernel_rfl) (by kernel_rfl) (by kernel_rfl) (by kernel_rfl)) ?_
  intro W base args ds gs before hval0 hW hcnd _
  have hval : ∀ (j : Nat) t v, Try.f3.params[j]? = some t → args[j]? = some v → Value.okWide Try.prog W .any base t v := hval0
  have hW' := hW
  obtain ⟨p, q, hA0, hV, rfl, hfz, hnd⟩ := hW
  have hA : DataW.TrodAll enc Try.prog W 0 (fun _ => true) true Try.f3.params.toList args.toList ds p := hA0
  rw [Try.params3] at hA hval
  obtain ⟨v0, vs0, d0, ds0, p0, q0, hargs, rfl, rfl, h0, r0⟩ := trodAll_cons hA
  obtain ⟨v1, vs1, d1, ds1, p1, q1, rfl, rfl, rfl, h1, r1⟩ := trodAll_cons r0
  obtain ⟨v2, vs2, d2, ds2, p2, q2, rfl, rfl, rfl, h2, r2⟩ := trodAll_cons r1
  obtain ⟨rfl, rfl, rfl⟩ := trodAll_nil r2
  obtain rfl : args = #[v0, v1, v2] := by cases args; simp_all
  obtain ⟨rfl, rfl⟩ := trodVars_none hV
  have k0 := h0
  have lt0 : ∀ x ∈ p0, x.block < W.heap.size := by obtain ⟨m, hm⟩ := k0; exact DataW.trod_lt m _ _ _ hm
  have k1 := h1
  have lt1 : ∀ x ∈ p1, x.block < W.heap.size := by obtain ⟨m, hm⟩ := k1; exact DataW.trod_lt m _ _ _ hm
  have k2 := h2
  have lt2 : ∀ x ∈ p2, x.block < W.heap.size := by obtain ⟨m, hm⟩ := k2; exact DataW.trod_lt m _ _ _ hm
  obtain ⟨nm0, ver0, a0, l0, c0, rfl, hq0⟩ := open_protocol (hval 0 24 v0 rfl rfl) h0
  obtain ⟨a1, l1, c1, rfl, r1_, w1, m1, n1⟩ := open_row Try.underlying25 Try.underlying5 (by kernel_rfl) (hval 1 25 v1 rfl rfl) h1
  obtain ⟨a2, l2, c2, rfl, r2_⟩ := open_bools (hval 2 26 v2 rfl rfl) h2
  clear hA0 hval0
  refine (talks_any W nm0 ver0 a0 l0 c0 hq0 a1 l1 c1 r1_ (fun x hx => by have := bounds_u8 (w1 x hx); omega) a2 l2 c2 r2_).mono fun e W' ⟨he, bel⟩ => ?_
  subst he
  exact ⟨_, rfl, _, _, _, [], _, [], hW', trodAll_mk1 (shut_bool Try.underlying4 _), (trodAll_cons_mk (Below.trod laidOut (by kernel_rfl) (of_decide_eq_true (by kernel_rfl)) k0 bel lt0) (trodAll_cons_mk (Below.trod laidOut (by kernel_rfl) (of_decide_eq_true (by kernel_rfl)) k1 bel lt1) (trodAll_cons_mk (Below.trod laidOut (by kernel_rfl) (of_decide_eq_true (by kernel_rfl)) k2 bel lt2) trodAll_mk0))), rfl, bel.frame _, fun h => by cases h⟩

/-- For every input TopTalks returns true, and its arguments read as before. -/
theorem topTalks_holds : Rows.TopTalksSaid :=
  OpenClaim.holds_of_wide 3 Try.f3 rfl rfl rfl rfl rfl rfl rfl ⟨rfl, rfl, rfl, rfl, rfl⟩ rfl rfl rfl rfl rfl (by kernel_rfl) Try.func3 (by kernel_rfl)
    (of_decide_eq_true (by kernel_rfl)) (by unfold Func.isWrapper; first | (rw [if_pos (by decide +kernel)]; kernel_rfl) | (rw [if_neg (by decide +kernel)]; exact ⟨rfl, rfl⟩))
    (fun os started H enc _ => topTalks_lifted os started H enc)

end Go.Proofs.Ytpoacekefhblhaa
