/- Layer 9 (shortestpath): for every input ShortestPathFrom, PathTime, Path and Verify return true. -/
import Derived.Test.YtenljoccfjlncaaRgM
import Derived.Test.YtenljoccfjlncaaRgOpen
namespace Go.Proofs.Ytenljoccfjlncaa
set_option linter.unusedSimpArgs false
set_option linter.unusedVariables false
open Go.ChangeShapes Go.WideShapes Go.Deep Go.RowKit Go.ChangeAt
set_option maxRecDepth 100000

theorem lfrom_any (w : World) (N : Int) (R : List Rg.Re) (Ae : Option Addr) (ce : Nat) (hR : Rd w Ae (R.flatMap Rg.Re.cells)) (A : Option Addr) (ts : List Int) (c : Nat) (h : Rd w A (ts.map (.int .i64))) (An : Option Addr) (ends : List Int) (cn : Nat) (hen : Rd w An (ends.map (.int .i64))) : Calls Try.prog 3 #[.agg #[.int .i64 N, .slice Ae R.length ce], .slice A ts.length c, .slice An ends.length cn] w fun e_ w' => e_ = .returned (.bool true) ∧ Below w.heap.size w w' := by
  by_cases hr : Rg.Right N R
  · obtain ⟨M, E, rfl, rfl, hn⟩ := Rg.right_net hr
    rw [List.length_map]
    have hE : Rd w Ae (E.flatMap Rg.Ed.cells) := by rw [← Rg.re_cells]; exact hR
    exact lfrom_yes w M E Ae ce hE hn A ts c h An ends cn hen
  · exact lfrom_no w N R Ae ce hR hr A ts c h An ends cn hen
theorem lptime_any (w : World) (N : Int) (R : List Rg.Re) (Ae : Option Addr) (ce : Nat) (hR : Rd w Ae (R.flatMap Rg.Re.cells)) (A : Option Addr) (ts : List Int) (c : Nat) (h : Rd w A (ts.map (.int .i64))) (Aw : Option Addr) (way : List Int) (cw : Nat) (hw : Rd w Aw (way.map (.int .i64))) (a b : Int) : Calls Try.prog 5 #[.agg #[.int .i64 N, .slice Ae R.length ce], .slice A ts.length c, .agg #[.slice Aw way.length cw, .int .i64 a, .int .i64 b]] w fun e_ w' => e_ = .returned (.bool true) ∧ Below w.heap.size w w' := by
  by_cases hr : Rg.Right N R
  · obtain ⟨M, E, rfl, rfl, hn⟩ := Rg.right_net hr
    rw [List.length_map]
    have hE : Rd w Ae (E.flatMap Rg.Ed.cells) := by rw [← Rg.re_cells]; exact hR
    exact lptime_yes w M E Ae ce hE hn A ts c h Aw way cw hw a b
  · exact lptime_no w N R Ae ce hR hr A ts c h Aw way cw hw a b
theorem lpath_any (w : World) (N : Int) (R : List Rg.Re) (Ae : Option Addr) (ce : Nat) (hR : Rd w Ae (R.flatMap Rg.Re.cells)) (A : Option Addr) (ts : List Int) (c : Nat) (h : Rd w A (ts.map (.int .i64))) (a b : Int) : Calls Try.prog 4 #[.agg #[.int .i64 N, .slice Ae R.length ce], .slice A ts.length c, .agg #[.int .i64 a, .int .i64 b]] w fun e_ w' => e_ = .returned (.bool true) ∧ Below w.heap.size w w' := by
  by_cases hr : Rg.Right N R
  · obtain ⟨M, E, rfl, rfl, hn⟩ := Rg.right_net hr
    rw [List.length_map]
    have hE : Rd w Ae (E.flatMap Rg.Ed.cells) := by rw [← Rg.re_cells]; exact hR
    by_cases hab : (0 ≤ a ∧ a < (M : Int)) ∧ (0 ≤ b ∧ b < (M : Int))
    · obtain ⟨x, rfl⟩ : ∃ x : Nat, a = x := ⟨a.toNat, by omega⟩
      obtain ⟨y, rfl⟩ : ∃ y : Nat, b = y := ⟨b.toNat, by omega⟩
      exact lpath_in w M E Ae ce hE hn A ts c h x y (by omega) (by omega)
    · exact lpath_out w M E Ae ce hE hn A ts c h a b hab
  · exact lpath_no w N R Ae ce hR hr A ts c h a b
theorem lverify_any (w : World) (N : Int) (R : List Rg.Re) (Ae : Option Addr) (ce : Nat) (hR : Rd w Ae (R.flatMap Rg.Re.cells)) (A : Option Addr) (ts : List Int) (c : Nat) (h : Rd w A (ts.map (.int .i64))) (An : Option Addr) (ends : List Int) (cn : Nat) (hen : Rd w An (ends.map (.int .i64))) (Ad : Option Addr) (dist : List Int) (cd : Nat) (hdi : Rd w Ad (dist.map (.int .i64))) : Calls Try.prog 6 #[.agg #[.int .i64 N, .slice Ae R.length ce], .slice A ts.length c, .agg #[.slice An ends.length cn, .slice Ad dist.length cd]] w fun e_ w' => e_ = .returned (.bool true) ∧ Below w.heap.size w w' := by
  by_cases hr : Rg.Right N R
  · obtain ⟨M, E, rfl, rfl, hn⟩ := Rg.right_net hr
    rw [List.length_map]
    have hE : Rd w Ae (E.flatMap Rg.Ed.cells) := by rw [← Rg.re_cells]; exact hR
    exact lverify_yes w M E Ae ce hE hn A ts c h An ends cn hen Ad dist cd hdi
  · exact lverify_no w N R Ae ce hR hr A ts c h An ends cn hen Ad dist cd hdi
set_option maxRecDepth 100000 in
theorem shortestPathFrom_lifted (os : Os) (started : os.Started) (H : Type) (enc : TypeId × Value → H) :
    ReturnsInHanded {} Try.checked os 3 .any (Rows.shortestPathFromSpec.pre6 enc Try.prog Try.f3 Rows.shortestPathFromRow.domain false) (Rows.shortestPathFromSpec.post enc Try.prog Try.f3 false true false false) := by
  refine returnsInHanded_of_change (C := Try.checked) own started (by kernel_rfl) Try.func3
    (ChangeSpec.witness6 (enc := enc) (C := Try.checked) false ⟨#[], #[.agg #[.int .i64 0, .slice none 0 0], .slice none 0 0, .slice none 0 0], []⟩ 8 (by kernel_rfl) (by kernel_rfl) (by kernel_rfl) (by kernel_rfl)) ?_
  intro W base args ds gs before hval0 hW hcnd _
  have hval : ∀ (j : Nat) t v, Try.f3.params[j]? = some t → args[j]? = some v → Value.okWide Try.prog W .any base t v := hval0
  have hW' := hW
  obtain ⟨p, q, hA0, hV, rfl, hfz, hnd⟩ := hW
  have hA : DataW.TrodAll enc Try.prog W 0 (fun _ => true) true Try.f3.params.toList args.toList ds p := hA0
  rw [Try.params3] at hA hval
  obtain ⟨v0, vs0, d0, ds0, p0, q0, hargs, rfl, rfl, h0, r0⟩ := trodAll_cons hA
  obtain ⟨v1, vs1, d1, ds1, p1, q1, rfl, rfl, rfl, h1, r1⟩ := trodAll_cons r0
  obtain ⟨v2, vs2, d2, ds2, p2, q2, rfl, rfl, rfl, h2, r2⟩ := trodAll_cons r1
  obtain ⟨rfl, rfl, rfl⟩ := trodAll_nil r2
  obtain rfl : args = #[v0, v1, v2] := by cases args; simp_all
  obtain ⟨rfl, rfl⟩ := trodVars_none hV
  have k0 := h0
  have lt0 : ∀ x ∈ p0, x.block < W.heap.size := by obtain ⟨m, hm⟩ := k0; exact DataW.trod_lt m _ _ _ hm
  have k1 := h1
  have lt1 : ∀ x ∈ p1, x.block < W.heap.size := by obtain ⟨m, hm⟩ := k1; exact DataW.trod_lt m _ _ _ hm
  have k2 := h2
  have lt2 : ∀ x ∈ p2, x.block < W.heap.size := by obtain ⟨m, hm⟩ := k2; exact DataW.trod_lt m _ _ _ hm
  obtain ⟨N0, A0, R0, c0, rfl, r0_⟩ := open_net (hval 0 24 v0 rfl rfl) h0
  obtain ⟨a1, l1, c1, rfl, r1_, w1, m1, n1⟩ := open_row Try.underlying25 Try.underlying2 (by kernel_rfl) (hval 1 25 v1 rfl rfl) h1
  obtain ⟨a2, l2, c2, rfl, r2_, w2, m2, n2⟩ := open_row Try.underlying26 Try.underlying3 (by kernel_rfl) (hval 2 26 v2 rfl rfl) h2
  clear hA0 hval0
  refine (lfrom_any W N0 R0 A0 c0 r0_ a1 l1 c1 r1_ a2 l2 c2 r2_).mono fun e W' ⟨he, bel⟩ => ?_
  subst he
  exact ⟨_, rfl, _, _, _, [], _, [], hW', trodAll_mk1 (shut_bool Try.underlying4 _), (trodAll_cons_mk (Below.trod laidOut (by kernel_rfl) (of_decide_eq_true (by kernel_rfl)) k0 bel lt0) (trodAll_cons_mk (Below.trod laidOut (by kernel_rfl) (of_decide_eq_true (by kernel_rfl)) k1 bel lt1) (trodAll_cons_mk (Below.trod laidOut (by kernel_rfl) (of_decide_eq_true (by kernel_rfl)) k2 bel lt2) trodAll_mk0))), rfl, bel.frame _, fun h => by cases h⟩

/-- For every input ShortestPathFrom returns true, and its arguments read as before. -/
theorem shortestPathFrom_holds : Rows.ShortestPathFromSaid :=
  OpenClaim.holds_of_wide 3 Try.f3 rfl rfl rfl rfl rfl rfl rfl ⟨rfl, rfl, rfl, rfl, rfl⟩ rfl rfl rfl rfl rfl (by kernel_rfl) Try.func3 (by kernel_rfl)
    (of_decide_eq_true (by kernel_rfl)) (by unfold Func.isWrapper; first | (rw [if_pos (by decide +kernel)]; kernel_rfl) | (rw [if_neg (by decide +kernel)]; exact ⟨rfl, rfl⟩))
    (fun os started H enc _ => shortestPathFrom_lifted os started H enc)

set_option maxRecDepth 100000 in
theorem shortestPathPathTime_lifted (os : Os) (started : os.Started) (H : Type) (enc : TypeId × Value → H) :
    ReturnsInHanded {} Try.checked os 5 .any (Rows.shortestPathPathTimeSpec.pre6 enc Try.prog Try.f5 Rows.shortestPathPathTimeRow.domain false) (Rows.shortestPathPathTimeSpec.post enc Try.prog Try.f5 false true false false) := by
  refine returnsInHanded_of_change (C := Try.checked) own started (by kernel_rfl) Try.func5
    (ChangeSpec.witness6 (enc := enc) (C := Try.checked) false ⟨#[], #[.agg #[.int .i64 0, .slice none 0 0], .slice none 0 0, .agg #[.slice none 0 0, .int .i64 0, .int .i64 0]], []⟩ 8 (by kernel_rfl) (by kernel_rfl) (by kernel_rfl) (by kernel_rfl)) ?_
  intro W base args ds gs before hval0 hW hcnd _
  have hval : ∀ (j : Nat) t v, Try.f5.params[j]? = some t → args[j]? = some v → Value.okWide Try.prog W .any base t v := hval0
  have hW' := hW
  obtain ⟨p, q, hA0, hV, rfl, hfz, hnd⟩ := hW
  have hA : DataW.TrodAll enc Try.prog W 0 (fun _ => true) true Try.f5.params.toList args.toList ds p := hA0
  rw [Try.params5] at hA hval
  obtain ⟨v0, vs0, d0, ds0, p0, q0, hargs, rfl, rfl, h0, r0⟩ := trodAll_cons hA
  obtain ⟨v1, vs1, d1, ds1, p1, q1, rfl, rfl, rfl, h1, r1⟩ := trodAll_cons r0
  obtain ⟨v2, vs2, d2, ds2, p2, q2, rfl, rfl, rfl, h2, r2⟩ := trodAll_cons r1
  obtain ⟨rfl, rfl, rfl⟩ := trodAll_nil r2
  obtain rfl : args = #[v0, v1, v2] := by cases args; simp_all
  obtain ⟨rfl, rfl⟩ := trodVars_none hV
  have k0 := h0
  have lt0 : ∀ x ∈ p0, x.block < W.heap.size := by obtain ⟨m, hm⟩ := k0; exact DataW.trod_lt m _ _ _ hm
  have k1 := h1
  have lt1 : ∀ x ∈ p1, x.block < W.heap.size := by obtain ⟨m, hm⟩ := k1; exact DataW.trod_lt m _ _ _ hm
  have k2 := h2
  have lt2 : ∀ x ∈ p2, x.block < W.heap.size := by obtain ⟨m, hm⟩ := k2; exact DataW.trod_lt m _ _ _ hm
  obtain ⟨N0, A0, R0, c0, rfl, r0_⟩ := open_net (hval 0 24 v0 rfl rfl) h0
  obtain ⟨a1, l1, c1, rfl, r1_, w1, m1, n1⟩ := open_row Try.underlying25 Try.underlying2 (by kernel_rfl) (hval 1 25 v1 rfl rfl) h1
  obtain ⟨A2, l2, c2, p2_, q2_, rfl, r2_⟩ := open_led (hval 2 43 v2 rfl rfl) h2
  clear hA0 hval0
  refine (lptime_any W N0 R0 A0 c0 r0_ a1 l1 c1 r1_ A2 l2 c2 r2_ p2_ q2_).mono fun e W' ⟨he, bel⟩ => ?_
  subst he
  exact ⟨_, rfl, _, _, _, [], _, [], hW', trodAll_mk1 (shut_bool Try.underlying4 _), (trodAll_cons_mk (Below.trod laidOut (by kernel_rfl) (of_decide_eq_true (by kernel_rfl)) k0 bel lt0) (trodAll_cons_mk (Below.trod laidOut (by kernel_rfl) (of_decide_eq_true (by kernel_rfl)) k1 bel lt1) (trodAll_cons_mk (Below.trod laidOut (by kernel_rfl) (of_decide_eq_true (by kernel_rfl)) k2 bel lt2) trodAll_mk0))), rfl, bel.frame _, fun h => by cases h⟩

/-- For every input ShortestPathPathTime returns true, and its arguments read as before. -/
theorem shortestPathPathTime_holds : Rows.ShortestPathPathTimeSaid :=
  OpenClaim.holds_of_wide 5 Try.f5 rfl rfl rfl rfl rfl rfl rfl ⟨rfl, rfl, rfl, rfl, rfl⟩ rfl rfl rfl rfl rfl (by kernel_rfl) Try.func5 (by kernel_rfl)
    (of_decide_eq_true (by kernel_rfl)) (by unfold Func.isWrapper; first | (rw [if_pos (by decide +kernel)]; kernel_rfl) | (rw [if_neg (by decide +kernel)]; exact ⟨rfl, rfl⟩))
    (fun os started H enc _ => shortestPathPathTime_lifted os started H enc)

set_option maxRecDepth 100000 in
theorem shortestPathPath_lifted (os : Os) (started : os.Started) (H : Type) (enc : TypeId × Value → H) :
    ReturnsInHanded {} Try.checked os 4 .any (Rows.shortestPathPathSpec.pre6 enc Try.prog Try.f4 Rows.shortestPathPathRow.domain false) (Rows.shortestPathPathSpec.post enc Try.prog Try.f4 false true false false) := by
  refine returnsInHanded_of_change (C := Try.checked) own started (by kernel_rfl) Try.func4
    (ChangeSpec.witness6 (enc := enc) (C := Try.checked) false ⟨#[], #[.agg #[.int .i64 0, .slice none 0 0], .slice none 0 0, .agg #[.int .i64 0, .int .i64 0]], []⟩ 8 (by kernel_rfl) (by kernel_rfl) (by kernel_rfl) (by kernel_rfl)) ?_
  intro W base args ds gs before hval0 hW hcnd _
  have hval : ∀ (j : Nat) t v, Try.f4.params[j]? = some t → args[j]? = some v → Value.okWide Try.prog W .any base t v := hval0
  have hW' := hW
  obtain ⟨p, q, hA0, hV, rfl, hfz, hnd⟩ := hW
  have hA : DataW.TrodAll enc Try.prog W 0 (fun _ => true) true Try.f4.params.toList args.toList ds p := hA0
  rw [Try.params4] at hA hval
  obtain ⟨v0, vs0, d0, ds0, p0, q0, hargs, rfl, rfl, h0, r0⟩ := trodAll_cons hA
  obtain ⟨v1, vs1, d1, ds1, p1, q1, rfl, rfl, rfl, h1, r1⟩ := trodAll_cons r0
  obtain ⟨v2, vs2, d2, ds2, p2, q2, rfl, rfl, rfl, h2, r2⟩ := trodAll_cons r1
  obtain ⟨rfl, rfl, rfl⟩ := trodAll_nil r2
  obtain rfl : args = #[v0, v1, v2] := by cases args; simp_all
  obtain ⟨rfl, rfl⟩ := trodVars_none hV
  have k0 := h0
  have lt0 : ∀ x ∈ p0, x.block < W.heap.size := by obtain ⟨m, hm⟩ := k0; exact DataW.trod_lt m _ _ _ hm
  have k1 := h1
  have lt1 : ∀ x ∈ p1, x.block < W.heap.size := by obtain ⟨m, hm⟩ := k1; exact DataW.trod_lt m _ _ _ hm
  have k2 := h2
  have lt2 : ∀ x ∈ p2, x.block < W.heap.size := by obtain ⟨m, hm⟩ := k2; exact DataW.trod_lt m _ _ _ hm
  obtain ⟨N0, A0, R0, c0, rfl, r0_⟩ := open_net (hval 0 24 v0 rfl rfl) h0
  obtain ⟨a1, l1, c1, rfl, r1_, w1, m1, n1⟩ := open_row Try.underlying25 Try.underlying2 (by kernel_rfl) (hval 1 25 v1 rfl rfl) h1
  obtain ⟨p2_, q2_, rfl⟩ := open_two (hval 2 37 v2 rfl rfl) h2
  clear hA0 hval0
  refine (lpath_any W N0 R0 A0 c0 r0_ a1 l1 c1 r1_ p2_ q2_).mono fun e W' ⟨he, bel⟩ => ?_
  subst he
  exact ⟨_, rfl, _, _, _, [], _, [], hW', trodAll_mk1 (shut_bool Try.underlying4 _), (trodAll_cons_mk (Below.trod laidOut (by kernel_rfl) (of_decide_eq_true (by kernel_rfl)) k0 bel lt0) (trodAll_cons_mk (Below.trod laidOut (by kernel_rfl) (of_decide_eq_true (by kernel_rfl)) k1 bel lt1) (trodAll_cons_mk (Below.trod laidOut (by kernel_rfl) (of_decide_eq_true (by kernel_rfl)) k2 bel lt2) trodAll_mk0))), rfl, bel.frame _, fun h => by cases h⟩

/-- For every input ShortestPathPath returns true, and its arguments read as before. -/
theorem shortestPathPath_holds : Rows.ShortestPathPathSaid :=
  OpenClaim.holds_of_wide 4 Try.f4 rfl rfl rfl rfl rfl rfl rfl ⟨rfl, rfl, rfl, rfl, rfl⟩ rfl rfl rfl rfl rfl (by kernel_rfl) Try.func4 (by kernel_rfl)
    (of_decide_eq_true (by kernel_rfl)) (by unfold Func.isWrapper; first | (rw [if_pos (by decide +kernel)]; kernel_rfl) | (rw [if_neg (by decide +kernel)]; exact ⟨rfl, rfl⟩))
    (fun os started H enc _ => shortestPathPath_lifted os started H enc)

set_option maxRecDepth 100000 in
theorem shortestPathVerify_lifted (os : Os) (started : os.Started) (H : Type) (enc : TypeId × Value → H) :
    ReturnsInHanded {} Try.checked os 6 .any (Rows.shortestPathVerifySpec.pre6 enc Try.prog Try.f6 Rows.shortestPathVerifyRow.domain false) (Rows.shortestPathVerifySpec.post enc Try.prog Try.f6 false true false false) := by
  refine returnsInHanded_of_change (C := Try.checked) own started (by kernel_rfl) Try.func6
    (ChangeSpec.witness6 (enc := enc) (C := Try.checked) false ⟨#[], #[.agg #[.int .i64 0, .slice none 0 0], .slice none 0 0, .agg #[.slice none 0 0, .slice none 0 0]], []⟩ 8 (by kernel_rfl) (by kernel_rfl) (by kernel_rfl) (by kernel_rfl)) ?_
  intro W base args ds gs before hval0 hW hcnd _
  have hval : ∀ (j : Nat) t v, Try.f6.params[j]? = some t → args[j]? = some v → Value.okWide Try.prog W .any base t v := hval0
  have hW' := hW
  obtain ⟨p, q, hA0, hV, rfl, hfz, hnd⟩ := hW
  have hA : DataW.TrodAll enc Try.prog W 0 (fun _ => true) true Try.f6.params.toList args.toList ds p := hA0
  rw [Try.params6] at hA hval
  obtain ⟨v0, vs0, d0, ds0, p0, q0, hargs, rfl, rfl, h0, r0⟩ := trodAll_cons hA
  obtain ⟨v1, vs1, d1, ds1, p1, q1, rfl, rfl, rfl, h1, r1⟩ := trodAll_cons r0
  obtain ⟨v2, vs2, d2, ds2, p2, q2, rfl, rfl, rfl, h2, r2⟩ := trodAll_cons r1
  obtain ⟨rfl, rfl, rfl⟩ := trodAll_nil r2
  obtain rfl : args = #[v0, v1, v2] := by cases args; simp_all
  obtain ⟨rfl, rfl⟩ := trodVars_none hV
  have k0 := h0
  have lt0 : ∀ x ∈ p0, x.block < W.heap.size := by obtain ⟨m, hm⟩ := k0; exact DataW.trod_lt m _ _ _ hm
  have k1 := h1
  have lt1 : ∀ x ∈ p1, x.block < W.heap.size := by obtain ⟨m, hm⟩ := k1; exact DataW.trod_lt m _ _ _ hm
  have k2 := h2
  have lt2 : ∀ x ∈ p2, x.block < W.heap.size := by obtain ⟨m, hm⟩ := k2; exact DataW.trod_lt m _ _ _ hm
  obtain ⟨N0, A0, R0, c0, rfl, r0_⟩ := open_net (hval 0 24 v0 rfl rfl) h0
  obtain ⟨a1, l1, c1, rfl, r1_, w1, m1, n1⟩ := open_row Try.underlying25 Try.underlying2 (by kernel_rfl) (hval 1 25 v1 rfl rfl) h1
  obtain ⟨A2, l2, c2, B2, m2, e2, rfl, r2_, s2_⟩ := open_claim (hval 2 50 v2 rfl rfl) h2
  clear hA0 hval0
  refine (lverify_any W N0 R0 A0 c0 r0_ a1 l1 c1 r1_ A2 l2 c2 r2_ B2 m2 e2 s2_).mono fun e W' ⟨he, bel⟩ => ?_
  subst he
  exact ⟨_, rfl, _, _, _, [], _, [], hW', trodAll_mk1 (shut_bool Try.underlying4 _), (trodAll_cons_mk (Below.trod laidOut (by kernel_rfl) (of_decide_eq_true (by kernel_rfl)) k0 bel lt0) (trodAll_cons_mk (Below.trod laidOut (by kernel_rfl) (of_decide_eq_true (by kernel_rfl)) k1 bel lt1) (trodAll_cons_mk (Below.trod laidOut (by kernel_rfl) (of_decide_eq_true (by kernel_rfl)) k2 bel lt2) trodAll_mk0))), rfl, bel.frame _, fun h => by cases h⟩

/-- For every input ShortestPathVerify returns true, and its arguments read as before. -/
theorem shortestPathVerify_holds : Rows.ShortestPathVerifySaid :=
  OpenClaim.holds_of_wide 6 Try.f6 rfl rfl rfl rfl rfl rfl rfl ⟨rfl, rfl, rfl, rfl, rfl⟩ rfl rfl rfl rfl rfl (by kernel_rfl) Try.func6 (by kernel_rfl)
    (of_decide_eq_true (by kernel_rfl)) (by unfold Func.isWrapper; first | (rw [if_pos (by decide +kernel)]; kernel_rfl) | (rw [if_neg (by decide +kernel)]; exact ⟨rfl, rfl⟩))
    (fun os started H enc _ => shortestPathVerify_lifted os started H enc)

end Go.Proofs.Ytenljoccfjlncaa
