/- Layer 9 (shortestpath): for every input ShortestPathTo, Minimal, Triangle and Monotonic return true. -/
import Derived.Test.YtenljoccfjlncaaRgN
import Derived.Test.YtenljoccfjlncaaRgQ
import Derived.Test.YtenljoccfjlncaaRgOpen
namespace Go.Proofs.Ytenljoccfjlncaa
set_option linter.unusedSimpArgs false
set_option linter.unusedVariables false
open Go.ChangeShapes Go.WideShapes Go.Deep Go.RowKit Go.ChangeAt
set_option maxRecDepth 100000

theorem lto_any (w : World) (N : Int) (R : List Rg.Re) (Ae : Option Addr) (ce : Nat) (hR : Rd w Ae (R.flatMap Rg.Re.cells)) (A : Option Addr) (ts : List Int) (c : Nat) (h : Rd w A (ts.map (.int .i64))) (hRl : R.length ≤ 5864062014805) (An : Option Addr) (ends : List Int) (cn : Nat) (hen : Rd w An (ends.map (.int .i64))) : Calls Try.prog 9 #[.agg #[.int .i64 N, .slice Ae R.length ce], .slice A ts.length c, .slice An ends.length cn] w fun e_ w' => e_ = .returned (.bool true) ∧ Below w.heap.size w w' := by
  by_cases hr : Rg.Right N R
  · obtain ⟨M, E, rfl, rfl, hn⟩ := Rg.right_net hr
    rw [List.length_map]
    have hE : Rd w Ae (E.flatMap Rg.Ed.cells) := by rw [← Rg.re_cells]; exact hR
    exact lto_yes w M E Ae ce hE hn A ts c h An ends cn hen
  · exact lto_no w N R Ae ce hR hRl hr A ts c h An ends cn hen
theorem lmin_any (w : World) (N : Int) (R : List Rg.Re) (Ae : Option Addr) (ce : Nat) (hR : Rd w Ae (R.flatMap Rg.Re.cells)) (A : Option Addr) (ts : List Int) (c : Nat) (h : Rd w A (ts.map (.int .i64))) (Aw : Option Addr) (way : List Int) (cw : Nat) (hw : Rd w Aw (way.map (.int .i64))) (a b : Int) : Calls Try.prog 8 #[.agg #[.int .i64 N, .slice Ae R.length ce], .slice A ts.length c, .agg #[.slice Aw way.length cw, .int .i64 a, .int .i64 b]] w fun e_ w' => e_ = .returned (.bool true) ∧ Below w.heap.size w w' := by
  by_cases hr : Rg.Right N R
  · obtain ⟨M, E, rfl, rfl, hn⟩ := Rg.right_net hr
    rw [List.length_map]
    have hE : Rd w Ae (E.flatMap Rg.Ed.cells) := by rw [← Rg.re_cells]; exact hR
    by_cases hab : (0 ≤ a ∧ a < (M : Int)) ∧ (0 ≤ b ∧ b < (M : Int))
    · obtain ⟨x, rfl⟩ : ∃ x : Nat, a = x := ⟨a.toNat, by omega⟩
      obtain ⟨y, rfl⟩ : ∃ y : Nat, b = y := ⟨b.toNat, by omega⟩
      obtain ⟨D, hD⟩ := Rg.dist_ex ts hn.ok hn.n.2 (show y < M by omega)
      by_cases hq : D x = Sp.INF
      · exact lmin_in0 w M E Ae ce hE hn A ts c h Aw way cw hw x y (by omega) (by omega) D hD hq
      · exact lmin_in1 w M E Ae ce hE hn A ts c h Aw way cw hw x y (by omega) (by omega) D hD hq
    · exact lmin_out w M E Ae ce hE hn A ts c h Aw way cw hw a b hab
  · exact lmin_no w N R Ae ce hR hr A ts c h Aw way cw hw a b
theorem ltri_any (w : World) (N : Int) (R : List Rg.Re) (Ae : Option Addr) (ce : Nat) (hR : Rd w Ae (R.flatMap Rg.Re.cells)) (A : Option Addr) (ts : List Int) (c : Nat) (h : Rd w A (ts.map (.int .i64))) (a b c_ : Int) : Calls Try.prog 10 #[.agg #[.int .i64 N, .slice Ae R.length ce], .slice A ts.length c, .agg #[.int .i64 a, .int .i64 b, .int .i64 c_]] w fun e_ w' => e_ = .returned (.bool true) ∧ Below w.heap.size w w' := by
  by_cases hr : Rg.Right N R
  · obtain ⟨M, E, rfl, rfl, hn⟩ := Rg.right_net hr
    rw [List.length_map]
    have hE : Rd w Ae (E.flatMap Rg.Ed.cells) := by rw [← Rg.re_cells]; exact hR
    exact ltri_yes w M E Ae ce hE hn A ts c h a b c_
  · exact ltri_no w N R Ae ce hR hr A ts c h a b c_
theorem lmono_any (w : World) (N : Int) (R : List Rg.Re) (Ae : Option Addr) (ce : Nat) (hR : Rd w Ae (R.flatMap Rg.Re.cells)) (A : Option Addr) (ts : List Int) (c : Nat) (h : Rd w A (ts.map (.int .i64))) (e L : Int) (An : Option Addr) (ends : List Int) (cn : Nat) (hen : Rd w An (ends.map (.int .i64))) (m : Int) : Calls Try.prog 7 #[.agg #[.int .i64 N, .slice Ae R.length ce], .slice A ts.length c, .agg #[.int .i64 e, .int .i64 L, .slice An ends.length cn, .int .i64 m]] w fun e_ w' => e_ = .returned (.bool true) ∧ Below w.heap.size w w' := by
  by_cases hr : Rg.Right N R
  · obtain ⟨M, E, rfl, rfl, hn⟩ := Rg.right_net hr
    rw [List.length_map]
    have hE : Rd w Ae (E.flatMap Rg.Ed.cells) := by rw [← Rg.re_cells]; exact hR
    exact lmono_yes w M E Ae ce hE hn A ts c h e L An ends cn hen m
  · exact lmono_no w N R Ae ce hR hr A ts c h e L An ends cn hen m
/-- the same graph, and how long its list can be -/
theorem trod_edgesS {H : Type} {enc : TypeId × Value → H} {W : World} {n : Nat} {v : Value} {y : DataW H × List MemPlace} (h : DataW.trod enc Try.prog W 0 (fun _ => true) true n 22 [v] = some y) :
    ∃ (A : Option Addr) (l : List Rg.Re) (c : Nat), v = .slice A l.length c ∧ Rd W A (l.flatMap Rg.Re.cells) ∧ (l.length = 0 ∨ ∃ k, l.length * 24 ≤ k ∧ k ∈ y.1.weights Try.prog 22) := by
  obtain ⟨A, l, c, e, hr⟩ := trod_edges h
  refine ⟨A, l, c, e, hr, ?_⟩
  rcases open_slice_fields Try.underlying22 Try.underlying63 (by kernel_rfl) (by kernel_rfl) h with ⟨hcs, _⟩ | ⟨x, len, cap, m, D, Pl, hcs, _, hl, hm, hmm, hx, hi⟩
  · simp at hcs
    rw [e] at hcs
    injection hcs with _ h2 _
    exact .inl h2
  · simp at hcs
    rw [e] at hcs
    injection hcs with _ h2 h3
    have hm' : m = cap := by simpa using hmm
    subst hm'
    refine .inr ⟨m * 24, by omega, ?_⟩
    rw [hx]
    simp only [DataW.weights, Try.underlying22]
    have hb : Try.prog.bytesOf 63 = 24 := by kernel_rfl
    rw [hb]
    have : ((List.range len).map D).length + ((List.range (m - len)).map fun j => D (len + j)).length = m := by simp; omega
    rw [this]; simp
theorem open_netS {H : Type} {enc : TypeId × Value → H} {W : World} {r : Reach} {b0 : Nat} {v : Value} {d : DataW H} {p : List MemPlace} (hv : Value.okWide Try.prog W r b0 24 v)
    (h : DataW.Trod enc Try.prog W 0 (fun _ => true) true 24 v d p) (hw : ∀ n ∈ d.weights Try.prog 24, n ≤ reachBytes) : ∃ (k0 : Int) (A1 : Option Addr) (b1 : List Rg.Re) (n1 : Nat), v = .agg #[.int .i64 k0, .slice A1 b1.length n1] ∧ Rd W A1 (b1.flatMap Rg.Re.cells) ∧ b1.length ≤ 5864062014805 := by
  obtain ⟨⟨cs⟩, rfl, hsz⟩ := okWide_struct Try.underlying24 hv
  obtain ⟨fuel, hf⟩ := h
  obtain ⟨xs, n, _, ex, hlen, hxl, hg⟩ := DataW.trod_struct Try.underlying24 hf
  have hl : cs.length = 2 := hsz.trans (by kernel_rfl)
  match cs, hl with
  | [c0, c1], _ =>
    have h0 := hg 0 _ rfl
    obtain ⟨y0, hy0⟩ : ∃ y, xs[0]? = some y := ⟨xs[0]'(by have := hxl; simp at this; omega), List.getElem?_eq_getElem _⟩
    rw [hy0] at h0
    have h0 : DataW.trod enc Try.prog W 0 (fun _ => true) true n 3 [c0] = some y0 := h0
    obtain ⟨k0, f0, _, g0⟩ := DataW.trod_int Try.underlying3 h0
    obtain rfl := (List.cons.inj f0).1
    have h1 := hg 1 _ rfl
    obtain ⟨y1, hy1⟩ : ∃ y, xs[1]? = some y := ⟨xs[1]'(by have := hxl; simp at this; omega), List.getElem?_eq_getElem _⟩
    rw [hy1] at h1
    have h1 : DataW.trod enc Try.prog W 0 (fun _ => true) true n 22 [c1] = some y1 := h1
    obtain ⟨A1, b1, n1, rfl, r1_, z1_⟩ := trod_edgesS h1
    refine ⟨k0, A1, b1, n1, rfl, r1_, ?_⟩
    rcases z1_ with h0 | ⟨k, hk1, hk2⟩
    · omega
    · have h3 := hw k (by
        have hd : d = DataW.agg (xs.map (·.1)) := congrArg Prod.fst ex
        rw [hd]
        simp only [DataW.weights, Try.underlying24]
        exact DataW.weights_mem_each (j := 1) (t := 22) rfl (by rw [List.getElem?_map, hy1]; rfl) k hk2)
      unfold reachBytes at h3; omega
set_option maxRecDepth 100000 in
theorem shortestPathTo_lifted (os : Os) (started : os.Started) (H : Type) (enc : TypeId × Value → H) :
    ReturnsInHanded {} Try.checked os 9 .any (Rows.shortestPathToSpec.pre6 enc Try.prog Try.f9 Rows.shortestPathToRow.domain false) (Rows.shortestPathToSpec.post enc Try.prog Try.f9 false true false false) := by
  refine returnsInHanded_of_change_sized (C := Try.checked) own started (by kernel_rfl) Try.func9
    (ChangeSpec.witness6 (enc := enc) (C := Try.checked) false ⟨#[], #[.agg #[.int .i64 0, .slice none 0 0], .slice none 0 0, .slice none 0 0], []⟩ 8 (by kernel_rfl) (by kernel_rfl) (by kernel_rfl) (by kernel_rfl)) ?_
  intro W base args ds gs before hval0 hW hcnd hsz _
  have hval : ∀ (j : Nat) t v, Try.f9.params[j]? = some t → args[j]? = some v → Value.okWide Try.prog W .any base t v := hval0
  have hW' := hW
  obtain ⟨p, q, hA0, hV, rfl, hfz, hnd⟩ := hW
  have hA : DataW.TrodAll enc Try.prog W 0 (fun _ => true) true Try.f9.params.toList args.toList ds p := hA0
  rw [Try.params9] at hA hval
  obtain ⟨v0, vs0, d0, ds0, p0, q0, hargs, rfl, rfl, h0, r0⟩ := trodAll_cons hA
  obtain ⟨v1, vs1, d1, ds1, p1, q1, rfl, rfl, rfl, h1, r1⟩ := trodAll_cons r0
  obtain ⟨v2, vs2, d2, ds2, p2, q2, rfl, rfl, rfl, h2, r2⟩ := trodAll_cons r1
  obtain ⟨rfl, rfl, rfl⟩ := trodAll_nil r2
  obtain rfl : args = #[v0, v1, v2] := by cases args; simp_all
  obtain ⟨rfl, rfl⟩ := trodVars_none hV
  have k0 := h0
  have lt0 : ∀ x ∈ p0, x.block < W.heap.size := by obtain ⟨m, hm⟩ := k0; exact DataW.trod_lt m _ _ _ hm
  have k1 := h1
  have lt1 : ∀ x ∈ p1, x.block < W.heap.size := by obtain ⟨m, hm⟩ := k1; exact DataW.trod_lt m _ _ _ hm
  have k2 := h2
  have lt2 : ∀ x ∈ p2, x.block < W.heap.size := by obtain ⟨m, hm⟩ := k2; exact DataW.trod_lt m _ _ _ hm
  have hw0 : ∀ n ∈ d0.weights Try.prog 24, n ≤ reachBytes := fun n hn => by
    have := List.all_eq_true.1 hsz n (DataW.weights_mem_each (j := 0) (t := 24) rfl rfl n hn)
    simpa using this
  have hw1 : ∀ n ∈ d1.weights Try.prog 25, n ≤ reachBytes := fun n hn => by
    have := List.all_eq_true.1 hsz n (DataW.weights_mem_each (j := 1) (t := 25) rfl rfl n hn)
    simpa using this
  have hw2 : ∀ n ∈ d2.weights Try.prog 26, n ≤ reachBytes := fun n hn => by
    have := List.all_eq_true.1 hsz n (DataW.weights_mem_each (j := 2) (t := 26) rfl rfl n hn)
    simpa using this
  obtain ⟨N0, A0, R0, c0, rfl, r0_, z0_⟩ := open_netS (hval 0 24 v0 rfl rfl) h0 hw0
  obtain ⟨a1, l1, c1, rfl, r1_, w1, m1, n1⟩ := open_row Try.underlying25 Try.underlying2 (by kernel_rfl) (hval 1 25 v1 rfl rfl) h1
  obtain ⟨a2, l2, c2, rfl, r2_, w2, m2, n2⟩ := open_row Try.underlying26 Try.underlying3 (by kernel_rfl) (hval 2 26 v2 rfl rfl) h2
  clear hA0 hval0
  refine (lto_any W N0 R0 A0 c0 r0_ a1 l1 c1 r1_ z0_ a2 l2 c2 r2_).mono fun e W' ⟨he, bel⟩ => ?_
  subst he
  exact ⟨_, rfl, _, _, _, [], _, [], hW', trodAll_mk1 (shut_bool Try.underlying4 _), (trodAll_cons_mk (Below.trod laidOut (by kernel_rfl) (of_decide_eq_true (by kernel_rfl)) k0 bel lt0) (trodAll_cons_mk (Below.trod laidOut (by kernel_rfl) (of_decide_eq_true (by kernel_rfl)) k1 bel lt1) (trodAll_cons_mk (Below.trod laidOut (by kernel_rfl) (of_decide_eq_true (by kernel_rfl)) k2 bel lt2) trodAll_mk0))), rfl, bel.frame _, fun h => by cases h⟩

/-- For every input ShortestPathTo returns true, and its arguments read as before. -/
theorem shortestPathTo_holds : Rows.ShortestPathToSaid :=
  OpenClaim.holds_of_wide 9 Try.f9 rfl rfl rfl rfl rfl rfl rfl ⟨rfl, rfl, rfl, rfl, rfl⟩ rfl rfl rfl rfl rfl (by kernel_rfl) Try.func9 (by kernel_rfl)
    (of_decide_eq_true (by kernel_rfl)) (by unfold Func.isWrapper; first | (rw [if_pos (by decide +kernel)]; kernel_rfl) | (rw [if_neg (by decide +kernel)]; exact ⟨rfl, rfl⟩))
    (fun os started H enc _ => shortestPathTo_lifted os started H enc)

set_option maxRecDepth 100000 in
theorem shortestPathMinimal_lifted (os : Os) (started : os.Started) (H : Type) (enc : TypeId × Value → H) :
    ReturnsInHanded {} Try.checked os 8 .any (Rows.shortestPathMinimalSpec.pre6 enc Try.prog Try.f8 Rows.shortestPathMinimalRow.domain false) (Rows.shortestPathMinimalSpec.post enc Try.prog Try.f8 false true false false) := by
  refine returnsInHanded_of_change (C := Try.checked) own started (by kernel_rfl) Try.func8
    (ChangeSpec.witness6 (enc := enc) (C := Try.checked) false ⟨#[], #[.agg #[.int .i64 0, .slice none 0 0], .slice none 0 0, .agg #[.slice none 0 0, .int .i64 0, .int .i64 0]], []⟩ 8 (by kernel_rfl) (by kernel_rfl) (by kernel_rfl) (by kernel_rfl)) ?_
  intro W base args ds gs before hval0 hW hcnd _
  have hval : ∀ (j : Nat) t v, Try.f8.params[j]? = some t → args[j]? = some v → Value.okWide Try.prog W .any base t v := hval0
  have hW' := hW
  obtain ⟨p, q, hA0, hV, rfl, hfz, hnd⟩ := hW
  have hA : DataW.TrodAll enc Try.prog W 0 (fun _ => true) true Try.f8.params.toList args.toList ds p := hA0
  rw [Try.params8] at hA hval
  obtain ⟨v0, vs0, d0, ds0, p0, q0, hargs, rfl, rfl, h0, r0⟩ := trodAll_cons hA
  obtain ⟨v1, vs1, d1, ds1, p1, q1, rfl, rfl, rfl, h1, r1⟩ := trodAll_cons r0
  obtain ⟨v2, vs2, d2, ds2, p2, q2, rfl, rfl, rfl, h2, r2⟩ := trodAll_cons r1
  obtain ⟨rfl, rfl, rfl⟩ := trodAll_nil r2
  obtain rfl : args = #[v0, v1, v2] := by cases args; simp_all
  obtain ⟨rfl, rfl⟩ := trodVars_none hV
  have k0 := h0
  have lt0 : ∀ x ∈ p0, x.block < W.heap.size := by obtain ⟨m, hm⟩ := k0; exact DataW.trod_lt m _ _ _ hm
  have k1 := h1
  have lt1 : ∀ x ∈ p1, x.block < W.heap.size := by obtain ⟨m, hm⟩ := k1; exact DataW.trod_lt m _ _ _ hm
  have k2 := h2
  have lt2 : ∀ x ∈ p2, x.block < W.heap.size := by obtain ⟨m, hm⟩ := k2; exact DataW.trod_lt m _ _ _ hm
  obtain ⟨N0, A0, R0, c0, rfl, r0_⟩ := open_net (hval 0 24 v0 rfl rfl) h0
  obtain ⟨a1, l1, c1, rfl, r1_, w1, m1, n1⟩ := open_row Try.underlying25 Try.underlying2 (by kernel_rfl) (hval 1 25 v1 rfl rfl) h1
  obtain ⟨A2, l2, c2, p2_, q2_, rfl, r2_⟩ := open_led (hval 2 43 v2 rfl rfl) h2
  clear hA0 hval0
  refine (lmin_any W N0 R0 A0 c0 r0_ a1 l1 c1 r1_ A2 l2 c2 r2_ p2_ q2_).mono fun e W' ⟨he, bel⟩ => ?_
  subst he
  exact ⟨_, rfl, _, _, _, [], _, [], hW', trodAll_mk1 (shut_bool Try.underlying4 _), (trodAll_cons_mk (Below.trod laidOut (by kernel_rfl) (of_decide_eq_true (by kernel_rfl)) k0 bel lt0) (trodAll_cons_mk (Below.trod laidOut (by kernel_rfl) (of_decide_eq_true (by kernel_rfl)) k1 bel lt1) (trodAll_cons_mk (Below.trod laidOut (by kernel_rfl) (of_decide_eq_true (by kernel_rfl)) k2 bel lt2) trodAll_mk0))), rfl, bel.frame _, fun h => by cases h⟩

/-- For every input ShortestPathMinimal returns true, and its arguments read as before. -/
theorem shortestPathMinimal_holds : Rows.ShortestPathMinimalSaid :=
  OpenClaim.holds_of_wide 8 Try.f8 rfl rfl rfl rfl rfl rfl rfl ⟨rfl, rfl, rfl, rfl, rfl⟩ rfl rfl rfl rfl rfl (by kernel_rfl) Try.func8 (by kernel_rfl)
    (of_decide_eq_true (by kernel_rfl)) (by unfold Func.isWrapper; first | (rw [if_pos (by decide +kernel)]; kernel_rfl) | (rw [if_neg (by decide +kernel)]; exact ⟨rfl, rfl⟩))
    (fun os started H enc _ => shortestPathMinimal_lifted os started H enc)

set_option maxRecDepth 100000 in
theorem shortestPathTriangle_lifted (os : Os) (started : os.Started) (H : Type) (enc : TypeId × Value → H) :
    ReturnsInHanded {} Try.checked os 10 .any (Rows.shortestPathTriangleSpec.pre6 enc Try.prog Try.f10 Rows.shortestPathTriangleRow.domain false) (Rows.shortestPathTriangleSpec.post enc Try.prog Try.f10 false true false false) := by
  refine returnsInHanded_of_change (C := Try.checked) own started (by kernel_rfl) Try.func10
    (ChangeSpec.witness6 (enc := enc) (C := Try.checked) false ⟨#[], #[.agg #[.int .i64 0, .slice none 0 0], .slice none 0 0, .agg #[.int .i64 0, .int .i64 0, .int .i64 0]], []⟩ 8 (by kernel_rfl) (by kernel_rfl) (by kernel_rfl) (by kernel_rfl)) ?_
  intro W base args ds gs before hval0 hW hcnd _
  have hval : ∀ (j : Nat) t v, Try.f10.params[j]? = some t → args[j]? = some v → Value.okWide Try.prog W .any base t v := hval0
  have hW' := hW
  obtain ⟨p, q, hA0, hV, rfl, hfz, hnd⟩ := hW
  have hA : DataW.TrodAll enc Try.prog W 0 (fun _ => true) true Try.f10.params.toList args.toList ds p := hA0
  rw [Try.params10] at hA hval
  obtain ⟨v0, vs0, d0, ds0, p0, q0, hargs, rfl, rfl, h0, r0⟩ := trodAll_cons hA
  obtain ⟨v1, vs1, d1, ds1, p1, q1, rfl, rfl, rfl, h1, r1⟩ := trodAll_cons r0
  obtain ⟨v2, vs2, d2, ds2, p2, q2, rfl, rfl, rfl, h2, r2⟩ := trodAll_cons r1
  obtain ⟨rfl, rfl, rfl⟩ := trodAll_nil r2
  obtain rfl : args = #[v0, v1, v2] := by cases args; simp_all
  obtain ⟨rfl, rfl⟩ := trodVars_none hV
  have k0 := h0
  have lt0 : ∀ x ∈ p0, x.block < W.heap.size := by obtain ⟨m, hm⟩ := k0; exact DataW.trod_lt m _ _ _ hm
  have k1 := h1
  have lt1 : ∀ x ∈ p1, x.block < W.heap.size := by obtain ⟨m, hm⟩ := k1; exact DataW.trod_lt m _ _ _ hm
  have k2 := h2
  have lt2 : ∀ x ∈ p2, x.block < W.heap.size := by obtain ⟨m, hm⟩ := k2; exact DataW.trod_lt m _ _ _ hm
  obtain ⟨N0, A0, R0, c0, rfl, r0_⟩ := open_net (hval 0 24 v0 rfl rfl) h0
  obtain ⟨a1, l1, c1, rfl, r1_, w1, m1, n1⟩ := open_row Try.underlying25 Try.underlying2 (by kernel_rfl) (hval 1 25 v1 rfl rfl) h1
  obtain ⟨p2_, q2_, s2_, rfl⟩ := open_three (hval 2 57 v2 rfl rfl) h2
  clear hA0 hval0
  refine (ltri_any W N0 R0 A0 c0 r0_ a1 l1 c1 r1_ p2_ q2_ s2_).mono fun e W' ⟨he, bel⟩ => ?_
  subst he
  exact ⟨_, rfl, _, _, _, [], _, [], hW', trodAll_mk1 (shut_bool Try.underlying4 _), (trodAll_cons_mk (Below.trod laidOut (by kernel_rfl) (of_decide_eq_true (by kernel_rfl)) k0 bel lt0) (trodAll_cons_mk (Below.trod laidOut (by kernel_rfl) (of_decide_eq_true (by kernel_rfl)) k1 bel lt1) (trodAll_cons_mk (Below.trod laidOut (by kernel_rfl) (of_decide_eq_true (by kernel_rfl)) k2 bel lt2) trodAll_mk0))), rfl, bel.frame _, fun h => by cases h⟩

/-- For every input ShortestPathTriangle returns true, and its arguments read as before. -/
theorem shortestPathTriangle_holds : Rows.ShortestPathTriangleSaid :=
  OpenClaim.holds_of_wide 10 Try.f10 rfl rfl rfl rfl rfl rfl rfl ⟨rfl, rfl, rfl, rfl, rfl⟩ rfl rfl rfl rfl rfl (by kernel_rfl) Try.func10 (by kernel_rfl)
    (of_decide_eq_true (by kernel_rfl)) (by unfold Func.isWrapper; first | (rw [if_pos (by decide +kernel)]; kernel_rfl) | (rw [if_neg (by decide +kernel)]; exact ⟨rfl, rfl⟩))
    (fun os started H enc _ => shortestPathTriangle_lifted os started H enc)

set_option maxRecDepth 100000 in
theorem shortestPathMonotonic_lifted (os : Os) (started : os.Started) (H : Type) (enc : TypeId × Value → H) :
    ReturnsInHanded {} Try.checked os 7 .any (Rows.shortestPathMonotonicSpec.pre6 enc Try.prog Try.f7 Rows.shortestPathMonotonicRow.domain false) (Rows.shortestPathMonotonicSpec.post enc Try.prog Try.f7 false true false false) := by
  refine returnsInHanded_of_change (C := Try.checked) own started (by kernel_rfl) Try.func7
    (ChangeSpec.witness6 (enc := enc) (C := Try.checked) false ⟨#[], #[.agg #[.int .i64 0, .slice none 0 0], .slice none 0 0, .agg #[.int .i64 0, .int .i64 0, .slice none 0 0, .int .i64 0]], []⟩ 8 (by kernel_rfl) (by kernel_rfl) (by kernel_rfl) (by kernel_rfl)) ?_
  intro W base args ds gs before hval0 hW hcnd _
  have hval : ∀ (j : Nat) t v, Try.f7.params[j]? = some t → args[j]? = some v → Value.okWide Try.prog W .any base t v := hval0
  have hW' := hW
  obtain ⟨p, q, hA0, hV, rfl, hfz, hnd⟩ := hW
  have hA : DataW.TrodAll enc Try.prog W 0 (fun _ => true) true Try.f7.params.toList args.toList ds p := hA0
  rw [Try.params7] at hA hval
  obtain ⟨v0, vs0, d0, ds0, p0, q0, hargs, rfl, rfl, h0, r0⟩ := trodAll_cons hA
  obtain ⟨v1, vs1, d1, ds1, p1, q1, rfl, rfl, rfl, h1, r1⟩ := trodAll_cons r0
  obtain ⟨v2, vs2, d2, ds2, p2, q2, rfl, rfl, rfl, h2, r2⟩ := trodAll_cons r1
  obtain ⟨rfl, rfl, rfl⟩ := trodAll_nil r2
  obtain rfl : args = #[v0, v1, v2] := by cases args; simp_all
  obtain ⟨rfl, rfl⟩ := trodVars_none hV
  have k0 := h0
  have lt0 : ∀ x ∈ p0, x.block < W.heap.size := by obtain ⟨m, hm⟩ := k0; exact DataW.trod_lt m _ _ _ hm
  have k1 := h1
  have lt1 : ∀ x ∈ p1, x.block < W.heap.size := by obtain ⟨m, hm⟩ := k1; exact DataW.trod_lt m _ _ _ hm
  have k2 := h2
  have lt2 : ∀ x ∈ p2, x.block < W.heap.size := by obtain ⟨m, hm⟩ := k2; exact DataW.trod_lt m _ _ _ hm
  obtain ⟨N0, A0, R0, c0, rfl, r0_⟩ := open_net (hval 0 24 v0 rfl rfl) h0
  obtain ⟨a1, l1, c1, rfl, r1_, w1, m1, n1⟩ := open_row Try.underlying25 Try.underlying2 (by kernel_rfl) (hval 1 25 v1 rfl rfl) h1
  obtain ⟨p2_, q2_, A2, l2, c2, s2_, rfl, r2_⟩ := open_worse (hval 2 54 v2 rfl rfl) h2
  clear hA0 hval0
  refine (lmono_any W N0 R0 A0 c0 r0_ a1 l1 c1 r1_ p2_ q2_ A2 l2 c2 r2_ s2_).mono fun e W' ⟨he, bel⟩ => ?_
  subst he
  exact ⟨_, rfl, _, _, _, [], _, [], hW', trodAll_mk1 (shut_bool Try.underlying4 _), (trodAll_cons_mk (Below.trod laidOut (by kernel_rfl) (of_decide_eq_true (by kernel_rfl)) k0 bel lt0) (trodAll_cons_mk (Below.trod laidOut (by kernel_rfl) (of_decide_eq_true (by kernel_rfl)) k1 bel lt1) (trodAll_cons_mk (Below.trod laidOut (by kernel_rfl) (of_decide_eq_true (by kernel_rfl)) k2 bel lt2) trodAll_mk0))), rfl, bel.frame _, fun h => by cases h⟩

/-- For every input ShortestPathMonotonic returns true, and its arguments read as before. -/
theorem shortestPathMonotonic_holds : Rows.ShortestPathMonotonicSaid :=
  OpenClaim.holds_of_wide 7 Try.f7 rfl rfl rfl rfl rfl rfl rfl ⟨rfl, rfl, rfl, rfl, rfl⟩ rfl rfl rfl rfl rfl (by kernel_rfl) Try.func7 (by kernel_rfl)
    (of_decide_eq_true (by kernel_rfl)) (by unfold Func.isWrapper; first | (rw [if_pos (by decide +kernel)]; kernel_rfl) | (rw [if_neg (by decide +kernel)]; exact ⟨rfl, rfl⟩))
    (fun os started H enc _ => shortestPathMonotonic_lifted os started H enc)

end Go.Proofs.Ytenljoccfjlncaa
