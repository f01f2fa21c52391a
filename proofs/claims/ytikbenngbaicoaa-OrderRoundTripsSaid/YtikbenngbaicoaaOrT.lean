/- Layer 28: the walks of the reference's fence. -/
import Derived.Test.YtikbenngbaicoaaOrE
namespace Go.Proofs.Ytikbenngbaicoaa
set_option linter.unusedSimpArgs false
set_option linter.unusedVariables false
open Go.RowKit

namespace Or
def tk (f : F) (o : O) : F := if refused f o || decide (o.e ≤ f.o.e) then f else ⟨f.u, o, true⟩
def tkB (f : F) (o : O) : Bool := !(refused f o || decide (o.e ≤ f.o.e))
/-- a fence that has accepted nothing holds no order; what it holds is valid -/
def Inv (f : F) : Prop := (f.a = false → f.o = zero) ∧ (f.a = true → valid f.o = true)
theorem valid_e {o : O} (h : valid o = true) : 1 ≤ o.e := by
  unfold valid rg at h; simp at h; omega
theorem tk_acc {f : F} (h : Inv f) (o : O) : tk f o = acc f o ∧ tkB f o = accB f o := by
  have e : (refused f o || decide (o.e ≤ f.o.e)) = (refused f o || stale f o) := by
    cases hr : refused f o with
    | true => rfl
    | false =>
      unfold refused at hr
      simp at hr
      have h1 := valid_e hr.1
      unfold stale
      cases ha : f.a with
      | true => rfl
      | false =>
        have := h.1 ha
        rw [this]
        show decide (o.e ≤ 0) = false
        exact decide_eq_false (by omega)
  unfold tk tkB acc accB
  rw [e]; exact ⟨rfl, rfl⟩
theorem Inv.acc {f : F} (h : Inv f) (o : O) : Inv (acc f o) := by
  unfold Or.acc
  split
  · exact h
  · rename_i hr
    refine ⟨fun h => (by cases h), fun _ => ?_⟩
    unfold refused at hr
    simp at hr
    exact hr.1.1
theorem Inv.new (u : Int) : Inv (new u) := ⟨fun _ => rfl, fun h => by cases h⟩
theorem Inv.e {f : F} (h : Inv f) : decide (0 < f.o.e) = f.a := by
  cases ha : f.a with
  | false => rw [h.1 ha]; rfl
  | true => have := valid_e (h.2 ha); exact decide_eq_true (by omega)
end Or

theorem Blk.new' (w : World) (t : TypeId) (cs : Array Value) (g : Nat) (hg : w.heap.size = g) : Blk (w.alloc (.cells cs t)) g t cs := by subst hg; exact Blk.new _ _ _
theorem store6 {w : World} {q : Nat} {t : TypeId} {cs : Array Value} (h : Blk w q t cs) (hc : cs.size = 6) (v0 v1 v2 v3 v4 v5 : Value) :
    Blk ((((((w.setCell ⟨q, 0, none⟩ v0).setCell ⟨q, 1, none⟩ v1).setCell ⟨q, 2, none⟩ v2).setCell ⟨q, 3, none⟩ v3).setCell ⟨q, 4, none⟩ v4).setCell ⟨q, 5, none⟩ v5) q t #[v0, v1, v2, v3, v4, v5] ∧
    Chg (· = q) w ((((((w.setCell ⟨q, 0, none⟩ v0).setCell ⟨q, 1, none⟩ v1).setCell ⟨q, 2, none⟩ v2).setCell ⟨q, 3, none⟩ v3).setCell ⟨q, 4, none⟩ v4).setCell ⟨q, 5, none⟩ v5) := by
  refine ⟨?_, (((((Chg.setCell w ⟨q, 0, none⟩ v0).trans (Chg.setCell _ ⟨q, 1, none⟩ v1) (fun _ _ h => h)).trans (Chg.setCell _ ⟨q, 2, none⟩ v2) (fun _ _ h => h)).trans (Chg.setCell _ ⟨q, 3, none⟩ v3) (fun _ _ h => h)).trans (Chg.setCell _ ⟨q, 4, none⟩ v4) (fun _ _ h => h)).trans (Chg.setCell _ ⟨q, 5, none⟩ v5) (fun _ _ h => h)⟩
  obtain ⟨l⟩ := cs
  match l, hc with
  | [a, b, c, d, e, f], _ => exact (((((h.set_ 0 v0).set_ 1 v1).set_ 2 v2).set_ 3 v3).set_ 4 v4).set_ 5 v5

set_option maxRecDepth 100000 in
set_option maxHeartbeats 1000000 in
theorem take_any (f : Or.F) (o : Or.O) (w : World) :
    Calls Try.prog 13 #[.agg #[.int .i64 f.u, .int .i64 f.o.u, .int .i64 f.o.e, .int .i64 f.o.k, .int .i64 f.o.i, .int .i64 f.o.n], .agg #[.int .i64 o.u, .int .i64 o.e, .int .i64 o.k, .int .i64 o.i, .int .i64 o.n]] w fun e w' => e = .returned (.tuple #[.agg #[.int .i64 (Or.tk f o).u, .int .i64 (Or.tk f o).o.u, .int .i64 (Or.tk f o).o.e, .int .i64 (Or.tk f o).o.k, .int .i64 (Or.tk f o).o.i, .int .i64 (Or.tk f o).o.n], .bool (Or.tkB f o), .int .i64 (Or.accE f o)]) ∧ Below w.heap.size w w' := by
  have HG := Lib.hid (((Blk.new w 31 #[.int .i64 f.u, .int .i64 f.o.u, .int .i64 f.o.e, .int .i64 f.o.k, .int .i64 f.o.i, .int .i64 f.o.n]).alloc (.cells #[.int .i64 o.u, .int .i64 o.e, .int .i64 o.k, .int .i64 o.i, .int .i64 o.n] 29)).alloc (.cells #[.int .i64 0, .int .i64 0, .int .i64 0, .int .i64 0, .int .i64 0, .int .i64 0] 31))
  have HX := Lib.hid ((Blk.new' (w.alloc (.cells #[.int .i64 f.u, .int .i64 f.o.u, .int .i64 f.o.e, .int .i64 f.o.k, .int .i64 f.o.i, .int .i64 f.o.n] 31)) 29 #[.int .i64 o.u, .int .i64 o.e, .int .i64 o.k, .int .i64 o.i, .int .i64 o.n] (w.heap.size + 1) (by simp)).alloc (.cells #[.int .i64 0, .int .i64 0, .int .i64 0, .int .i64 0, .int .i64 0, .int .i64 0] 31))
  have HQ := Lib.hid (Blk.new' ((w.alloc (.cells #[.int .i64 f.u, .int .i64 f.o.u, .int .i64 f.o.e, .int .i64 f.o.k, .int .i64 f.o.i, .int .i64 f.o.n] 31)).alloc (.cells #[.int .i64 o.u, .int .i64 o.e, .int .i64 o.k, .int .i64 o.i, .int .i64 o.n] 29)) 31 #[.int .i64 0, .int .i64 0, .int .i64 0, .int .i64 0, .int .i64 0, .int .i64 0] (w.heap.size + 1 + 1) (by simp))
  have hal := (Below.refl w.heap.size w).alloc (Nat.le_refl _) (.cells #[.int .i64 f.u, .int .i64 f.o.u, .int .i64 f.o.e, .int .i64 f.o.k, .int .i64 f.o.i, .int .i64 f.o.n] 31)
  have hal2 := hal.alloc hal.size (.cells #[.int .i64 o.u, .int .i64 o.e, .int .i64 o.k, .int .i64 o.i, .int .i64 o.n] 29)
  have HB := Lib.hid (hal2.alloc hal2.size (.cells #[.int .i64 0, .int .i64 0, .int .i64 0, .int .i64 0, .int .i64 0, .int .i64 0] 31))
  clear hal hal2
  obtain ⟨bv, hbv⟩ : ∃ bv, Or.valid o = bv := ⟨_, rfl⟩
  have HV := Lib.hid hbv
  obtain ⟨r, hr⟩ : ∃ r, Or.tk f o = r := ⟨_, rfl⟩
  obtain ⟨rb, hrb⟩ : ∃ rb, Or.tkB f o = rb := ⟨_, rfl⟩
  obtain ⟨re, hre⟩ : ∃ re, Or.accE f o = re := ⟨_, rfl⟩
  rw [hr, hrb, hre]
  unfold Or.tk Or.refused at hr
  unfold Or.tkB Or.refused at hrb
  unfold Or.accE Or.refused at hre
  rw [hbv] at hr hrb hre
  clear hbv
  cases bv with
  | false =>
    obtain rfl : f = r := hr
    obtain rfl : false = rb := hrb
    obtain rfl : 1 = re := hre
    go_enter Try.func13, Try.ntmps13
    go_wp2_with fail
    refine (right_any o _).mono ?_
    rw [HV.out]
    rintro e w1 ⟨rfl, h1⟩
    have HG1 := Lib.hid (HG.out.low h1)
    have HX1 := Lib.hid (HX.out.low h1)
    have HQ1 := Lib.hid (HQ.out.low h1)
    have HB1 := Lib.hid (HB.out.trans (h1.mono HB.out.size))
    clear h1
    have g0 : w1.cell? ⟨w.heap.size, 0, none⟩ = some (.int .i64 f.u) := HG1.out.cell 0
    have g1 : w1.cell? ⟨w.heap.size, 1, none⟩ = some (.int .i64 f.o.u) := HG1.out.cell 1
    have g2 : w1.cell? ⟨w.heap.size, 2, none⟩ = some (.int .i64 f.o.e) := HG1.out.cell 2
    have g3 : w1.cell? ⟨w.heap.size, 3, none⟩ = some (.int .i64 f.o.k) := HG1.out.cell 3
    have g4 : w1.cell? ⟨w.heap.size, 4, none⟩ = some (.int .i64 f.o.i) := HG1.out.cell 4
    have g5 : w1.cell? ⟨w.heap.size, 5, none⟩ = some (.int .i64 f.o.n) := HG1.out.cell 5
    have x0 : w1.cell? ⟨w.heap.size + 1, 0, none⟩ = some (.int .i64 o.u) := HX1.out.cell 0
    have x1 : w1.cell? ⟨w.heap.size + 1, 1, none⟩ = some (.int .i64 o.e) := HX1.out.cell 1
    have x2 : w1.cell? ⟨w.heap.size + 1, 2, none⟩ = some (.int .i64 o.k) := HX1.out.cell 2
    have x3 : w1.cell? ⟨w.heap.size + 1, 3, none⟩ = some (.int .i64 o.i) := HX1.out.cell 3
    have x4 : w1.cell? ⟨w.heap.size + 1, 4, none⟩ = some (.int .i64 o.n) := HX1.out.cell 4
    have q0 : w1.cell? ⟨w.heap.size + 1 + 1, 0, none⟩ = some (.int .i64 0) := HQ1.out.cell 0
    have z0 : w1.frozen? ⟨w.heap.size + 1 + 1, 0, none⟩ = false := HQ1.out.frozen 0
    have q1 : w1.cell? ⟨w.heap.size + 1 + 1, 1, none⟩ = some (.int .i64 0) := HQ1.out.cell 1
    have z1 : w1.frozen? ⟨w.heap.size + 1 + 1, 1, none⟩ = false := HQ1.out.frozen 1
    have q2 : w1.cell? ⟨w.heap.size + 1 + 1, 2, none⟩ = some (.int .i64 0) := HQ1.out.cell 2
    have z2 : w1.frozen? ⟨w.heap.size + 1 + 1, 2, none⟩ = false := HQ1.out.frozen 2
    have q3 : w1.cell? ⟨w.heap.size + 1 + 1, 3, none⟩ = some (.int .i64 0) := HQ1.out.cell 3
    have z3 : w1.frozen? ⟨w.heap.size + 1 + 1, 3, none⟩ = false := HQ1.out.frozen 3
    have q4 : w1.cell? ⟨w.heap.size + 1 + 1, 4, none⟩ = some (.int .i64 0) := HQ1.out.cell 4
    have z4 : w1.frozen? ⟨w.heap.size + 1 + 1, 4, none⟩ = false := HQ1.out.frozen 4
    have q5 : w1.cell? ⟨w.heap.size + 1 + 1, 5, none⟩ = some (.int .i64 0) := HQ1.out.cell 5
    have z5 : w1.frozen? ⟨w.heap.size + 1 + 1, 5, none⟩ = false := HQ1.out.frozen 5
    have y0 : w1.frozen? ⟨w.heap.size, 0, none⟩ = false := HG1.out.frozen 0
    have y1 : w1.frozen? ⟨w.heap.size, 1, none⟩ = false := HG1.out.frozen 1
    have y2 : w1.frozen? ⟨w.heap.size, 2, none⟩ = false := HG1.out.frozen 2
    have y3 : w1.frozen? ⟨w.heap.size, 3, none⟩ = false := HG1.out.frozen 3
    have y4 : w1.frozen? ⟨w.heap.size, 4, none⟩ = false := HG1.out.frozen 4
    have y5 : w1.frozen? ⟨w.heap.size, 5, none⟩ = false := HG1.out.frozen 5
    have HST := Lib.hid (store6 HQ1.out rfl (.int .i64 f.u) (.int .i64 f.o.u) (.int .i64 f.o.e) (.int .i64 f.o.k) (.int .i64 f.o.i) (.int .i64 f.o.n))
    go_wp2_with fail
    have r0 := HST.out.1.cell 0
    have r1 := HST.out.1.cell 1
    have r2 := HST.out.1.cell 2
    have r3 := HST.out.1.cell 3
    have r4 := HST.out.1.cell 4
    have r5 := HST.out.1.cell 5
    simp only [List.getElem?_toArray, List.getElem?_cons_zero, List.getElem?_cons_succ] at r0 r1 r2 r3 r4 r5
    exact bodyPost_ret (v := .tuple #[.agg #[.int .i64 f.u, .int .i64 f.o.u, .int .i64 f.o.e, .int .i64 f.o.k, .int .i64 f.o.i, .int .i64 f.o.n], .bool false, .int .i64 1]) (by simp [results, Try.results13, go_sem, r0, r1, r2, r3, r4, r5]) rfl ⟨rfl, HB1.out.trans (HST.out.2.below (fun k e => by omega) HB1.out.size)⟩
  | true =>
    by_cases hu : o.u = f.u
    · have hq : (o.u != f.u) = false := by simpa using hu
      rw [hq] at hr hrb hre
      by_cases he : o.e ≤ f.o.e
      · rw [decide_eq_true he] at hr hrb
        obtain rfl : f = r := hr
        obtain rfl : false = rb := hrb
        obtain rfl : 0 = re := hre
        clear hu
        go_enter Try.func13, Try.ntmps13
        go_wp2_with fail
        refine (right_any o _).mono ?_
        rw [HV.out]
        rintro e w1 ⟨rfl, h1⟩
        have HG1 := Lib.hid (HG.out.low h1)
        have HX1 := Lib.hid (HX.out.low h1)
        have HQ1 := Lib.hid (HQ.out.low h1)
        have HB1 := Lib.hid (HB.out.trans (h1.mono HB.out.size))
        clear h1
        have g0 : w1.cell? ⟨w.heap.size, 0, none⟩ = some (.int .i64 f.u) := HG1.out.cell 0
        have g1 : w1.cell? ⟨w.heap.size, 1, none⟩ = some (.int .i64 f.o.u) := HG1.out.cell 1
        have g2 : w1.cell? ⟨w.heap.size, 2, none⟩ = some (.int .i64 f.o.e) := HG1.out.cell 2
        have g3 : w1.cell? ⟨w.heap.size, 3, none⟩ = some (.int .i64 f.o.k) := HG1.out.cell 3
        have g4 : w1.cell? ⟨w.heap.size, 4, none⟩ = some (.int .i64 f.o.i) := HG1.out.cell 4
        have g5 : w1.cell? ⟨w.heap.size, 5, none⟩ = some (.int .i64 f.o.n) := HG1.out.cell 5
        have x0 : w1.cell? ⟨w.heap.size + 1, 0, none⟩ = some (.int .i64 o.u) := HX1.out.cell 0
        have x1 : w1.cell? ⟨w.heap.size + 1, 1, none⟩ = some (.int .i64 o.e) := HX1.out.cell 1
        have x2 : w1.cell? ⟨w.heap.size + 1, 2, none⟩ = some (.int .i64 o.k) := HX1.out.cell 2
        have x3 : w1.cell? ⟨w.heap.size + 1, 3, none⟩ = some (.int .i64 o.i) := HX1.out.cell 3
        have x4 : w1.cell? ⟨w.heap.size + 1, 4, none⟩ = some (.int .i64 o.n) := HX1.out.cell 4
        have q0 : w1.cell? ⟨w.heap.size + 1 + 1, 0, none⟩ = some (.int .i64 0) := HQ1.out.cell 0
        have z0 : w1.frozen? ⟨w.heap.size + 1 + 1, 0, none⟩ = false := HQ1.out.frozen 0
        have q1 : w1.cell? ⟨w.heap.size + 1 + 1, 1, none⟩ = some (.int .i64 0) := HQ1.out.cell 1
        have z1 : w1.frozen? ⟨w.heap.size + 1 + 1, 1, none⟩ = false := HQ1.out.frozen 1
        have q2 : w1.cell? ⟨w.heap.size + 1 + 1, 2, none⟩ = some (.int .i64 0) := HQ1.out.cell 2
        have z2 : w1.frozen? ⟨w.heap.size + 1 + 1, 2, none⟩ = false := HQ1.out.frozen 2
        have q3 : w1.cell? ⟨w.heap.size + 1 + 1, 3, none⟩ = some (.int .i64 0) := HQ1.out.cell 3
        have z3 : w1.frozen? ⟨w.heap.size + 1 + 1, 3, none⟩ = false := HQ1.out.frozen 3
        have q4 : w1.cell? ⟨w.heap.size + 1 + 1, 4, none⟩ = some (.int .i64 0) := HQ1.out.cell 4
        have z4 : w1.frozen? ⟨w.heap.size + 1 + 1, 4, none⟩ = false := HQ1.out.frozen 4
        have q5 : w1.cell? ⟨w.heap.size + 1 + 1, 5, none⟩ = some (.int .i64 0) := HQ1.out.cell 5
        have z5 : w1.frozen? ⟨w.heap.size + 1 + 1, 5, none⟩ = false := HQ1.out.frozen 5
        have y0 : w1.frozen? ⟨w.heap.size, 0, none⟩ = false := HG1.out.frozen 0
        have y1 : w1.frozen? ⟨w.heap.size, 1, none⟩ = false := HG1.out.frozen 1
        have y2 : w1.frozen? ⟨w.heap.size, 2, none⟩ = false := HG1.out.frozen 2
        have y3 : w1.frozen? ⟨w.heap.size, 3, none⟩ = false := HG1.out.frozen 3
        have y4 : w1.frozen? ⟨w.heap.size, 4, none⟩ = false := HG1.out.frozen 4
        have y5 : w1.frozen? ⟨w.heap.size, 5, none⟩ = false := HG1.out.frozen 5
        have HST := Lib.hid (store6 HQ1.out rfl (.int .i64 f.u) (.int .i64 f.o.u) (.int .i64 f.o.e) (.int .i64 f.o.k) (.int .i64 f.o.i) (.int .i64 f.o.n))
        go_wp2_with fail
        have r0 := HST.out.1.cell 0
        have r1 := HST.out.1.cell 1
        have r2 := HST.out.1.cell 2
        have r3 := HST.out.1.cell 3
        have r4 := HST.out.1.cell 4
        have r5 := HST.out.1.cell 5
        simp only [List.getElem?_toArray, List.getElem?_cons_zero, List.getElem?_cons_succ] at r0 r1 r2 r3 r4 r5
        exact bodyPost_ret (v := .tuple #[.agg #[.int .i64 f.u, .int .i64 f.o.u, .int .i64 f.o.e, .int .i64 f.o.k, .int .i64 f.o.i, .int .i64 f.o.n], .bool false, .int .i64 0]) (by simp [results, Try.results13, go_sem, r0, r1, r2, r3, r4, r5]) rfl ⟨rfl, HB1.out.trans (HST.out.2.below (fun k e => by omega) HB1.out.size)⟩
      · rw [decide_eq_false he] at hr hrb
        obtain rfl : ⟨f.u, o, true⟩ = r := hr
        obtain rfl : true = rb := hrb
        obtain rfl : 0 = re := hre
        clear hu
        go_enter Try.func13, Try.ntmps13
        go_wp2_with fail
        refine (right_any o _).mono ?_
        rw [HV.out]
        rintro e w1 ⟨rfl, h1⟩
        have HG1 := Lib.hid (HG.out.low h1)
        have HX1 := Lib.hid (HX.out.low h1)
        have HQ1 := Lib.hid (HQ.out.low h1)
        have HB1 := Lib.hid (HB.out.trans (h1.mono HB.out.size))
        clear h1
        have g0 : w1.cell? ⟨w.heap.size, 0, none⟩ = some (.int .i64 f.u) := HG1.out.cell 0
        have g1 : w1.cell? ⟨w.heap.size, 1, none⟩ = some (.int .i64 f.o.u) := HG1.out.cell 1
        have g2 : w1.cell? ⟨w.heap.size, 2, none⟩ = some (.int .i64 f.o.e) := HG1.out.cell 2
        have g3 : w1.cell? ⟨w.heap.size, 3, none⟩ = some (.int .i64 f.o.k) := HG1.out.cell 3
        have g4 : w1.cell? ⟨w.heap.size, 4, none⟩ = some (.int .i64 f.o.i) := HG1.out.cell 4
        have g5 : w1.cell? ⟨w.heap.size, 5, none⟩ = some (.int .i64 f.o.n) := HG1.out.cell 5
        have x0 : w1.cell? ⟨w.heap.size + 1, 0, none⟩ = some (.int .i64 o.u) := HX1.out.cell 0
        have x1 : w1.cell? ⟨w.heap.size + 1, 1, none⟩ = some (.int .i64 o.e) := HX1.out.cell 1
        have x2 : w1.cell? ⟨w.heap.size + 1, 2, none⟩ = some (.int .i64 o.k) := HX1.out.cell 2
        have x3 : w1.cell? ⟨w.heap.size + 1, 3, none⟩ = some (.int .i64 o.i) := HX1.out.cell 3
        have x4 : w1.cell? ⟨w.heap.size + 1, 4, none⟩ = some (.int .i64 o.n) := HX1.out.cell 4
        have q0 : w1.cell? ⟨w.heap.size + 1 + 1, 0, none⟩ = some (.int .i64 0) := HQ1.out.cell 0
        have z0 : w1.frozen? ⟨w.heap.size + 1 + 1, 0, none⟩ = false := HQ1.out.frozen 0
        have q1 : w1.cell? ⟨w.heap.size + 1 + 1, 1, none⟩ = some (.int .i64 0) := HQ1.out.cell 1
        have z1 : w1.frozen? ⟨w.heap.size + 1 + 1, 1, none⟩ = false := HQ1.out.frozen 1
        have q2 : w1.cell? ⟨w.heap.size + 1 + 1, 2, none⟩ = some (.int .i64 0) := HQ1.out.cell 2
        have z2 : w1.frozen? ⟨w.heap.size + 1 + 1, 2, none⟩ = false := HQ1.out.frozen 2
        have q3 : w1.cell? ⟨w.heap.size + 1 + 1, 3, none⟩ = some (.int .i64 0) := HQ1.out.cell 3
        have z3 : w1.frozen? ⟨w.heap.size + 1 + 1, 3, none⟩ = false := HQ1.out.frozen 3
        have q4 : w1.cell? ⟨w.heap.size + 1 + 1, 4, none⟩ = some (.int .i64 0) := HQ1.out.cell 4
        have z4 : w1.frozen? ⟨w.heap.size + 1 + 1, 4, none⟩ = false := HQ1.out.frozen 4
        have q5 : w1.cell? ⟨w.heap.size + 1 + 1, 5, none⟩ = some (.int .i64 0) := HQ1.out.cell 5
        have z5 : w1.frozen? ⟨w.heap.size + 1 + 1, 5, none⟩ = false := HQ1.out.frozen 5
        have y0 : w1.frozen? ⟨w.heap.size, 0, none⟩ = false := HG1.out.frozen 0
        have y1 : w1.frozen? ⟨w.heap.size, 1, none⟩ = false := HG1.out.frozen 1
        have y2 : w1.frozen? ⟨w.heap.size, 2, none⟩ = false := HG1.out.frozen 2
        have y3 : w1.frozen? ⟨w.heap.size, 3, none⟩ = false := HG1.out.frozen 3
        have y4 : w1.frozen? ⟨w.heap.size, 4, none⟩ = false := HG1.out.frozen 4
        have y5 : w1.frozen? ⟨w.heap.size, 5, none⟩ = false := HG1.out.frozen 5
        have hc5 : Chg (· = w.heap.size) w1 ((((((w1).setCell ⟨w.heap.size, 1, none⟩ (.int .i64 o.u)).setCell ⟨w.heap.size, 2, none⟩ (.int .i64 o.e)).setCell ⟨w.heap.size, 3, none⟩ (.int .i64 o.k)).setCell ⟨w.heap.size, 4, none⟩ (.int .i64 o.i)).setCell ⟨w.heap.size, 5, none⟩ (.int .i64 o.n)) := ((((Chg.setCell (w1) ⟨w.heap.size, 1, none⟩ (.int .i64 o.u)).trans (Chg.setCell ((w1).setCell ⟨w.heap.size, 1, none⟩ (.int .i64 o.u)) ⟨w.heap.size, 2, none⟩ (.int .i64 o.e)) (fun _ _ h => h)).trans (Chg.setCell (((w1).setCell ⟨w.heap.size, 1, none⟩ (.int .i64 o.u)).setCell ⟨w.heap.size, 2, none⟩ (.int .i64 o.e)) ⟨w.heap.size, 3, none⟩ (.int .i64 o.k)) (fun _ _ h => h)).trans (Chg.setCell ((((w1).setCell ⟨w.heap.size, 1, none⟩ (.int .i64 o.u)).setCell ⟨w.heap.size, 2, none⟩ (.int .i64 o.e)).setCell ⟨w.heap.size, 3, none⟩ (.int .i64 o.k)) ⟨w.heap.size, 4, none⟩ (.int .i64 o.i)) (fun _ _ h => h)).trans (Chg.setCell (((((w1).setCell ⟨w.heap.size, 1, none⟩ (.int .i64 o.u)).setCell ⟨w.heap.size, 2, none⟩ (.int .i64 o.e)).setCell ⟨w.heap.size, 3, none⟩ (.int .i64 o.k)).setCell ⟨w.heap.size, 4, none⟩ (.int .i64 o.i)) ⟨w.heap.size, 5, none⟩ (.int .i64 o.n)) (fun _ _ h => h)
        have HQ5 := HQ1.out.chg hc5 (by omega)
        have HB5 := Lib.hid (HB1.out.trans (hc5.below (B := w.heap.size) (fun k e => by omega) HB1.out.size))
        have HST := Lib.hid (store6 HQ5 rfl (.int .i64 f.u) (.int .i64 o.u) (.int .i64 o.e) (.int .i64 o.k) (.int .i64 o.i) (.int .i64 o.n))
        clear hc5 HQ5
        go_wp2_with fail
        have r0 := HST.out.1.cell 0
        have r1 := HST.out.1.cell 1
        have r2 := HST.out.1.cell 2
        have r3 := HST.out.1.cell 3
        have r4 := HST.out.1.cell 4
        have r5 := HST.out.1.cell 5
        simp only [List.getElem?_toArray, List.getElem?_cons_zero, List.getElem?_cons_succ] at r0 r1 r2 r3 r4 r5
        exact bodyPost_ret (v := .tuple #[.agg #[.int .i64 f.u, .int .i64 o.u, .int .i64 o.e, .int .i64 o.k, .int .i64 o.i, .int .i64 o.n], .bool true, .int .i64 0]) (by simp [results, Try.results13, go_sem, r0, r1, r2, r3, r4, r5]) rfl ⟨rfl, HB5.out.trans (HST.out.2.below (fun k e => by omega) HB5.out.size)⟩
    · have hq : (o.u != f.u) = true := by simpa using hu
      rw [hq] at hr hrb hre
      obtain rfl : f = r := hr
      obtain rfl : false = rb := hrb
      obtain rfl : 1 = re := hre
      clear hu
      go_enter Try.func13, Try.ntmps13
      go_wp2_with fail
      refine (right_any o _).mono ?_
      rw [HV.out]
      rintro e w1 ⟨rfl, h1⟩
      have HG1 := Lib.hid (HG.out.low h1)
      have HX1 := Lib.hid (HX.out.low h1)
      have HQ1 := Lib.hid (HQ.out.low h1)
      have HB1 := Lib.hid (HB.out.trans (h1.mono HB.out.size))
      clear h1
      have g0 : w1.cell? ⟨w.heap.size, 0, none⟩ = some (.int .i64 f.u) := HG1.out.cell 0
      have g1 : w1.cell? ⟨w.heap.size, 1, none⟩ = some (.int .i64 f.o.u) := HG1.out.cell 1
      have g2 : w1.cell? ⟨w.heap.size, 2, none⟩ = some (.int .i64 f.o.e) := HG1.out.cell 2
      have g3 : w1.cell? ⟨w.heap.size, 3, none⟩ = some (.int .i64 f.o.k) := HG1.out.cell 3
      have g4 : w1.cell? ⟨w.heap.size, 4, none⟩ = some (.int .i64 f.o.i) := HG1.out.cell 4
      have g5 : w1.cell? ⟨w.heap.size, 5, none⟩ = some (.int .i64 f.o.n) := HG1.out.cell 5
      have x0 : w1.cell? ⟨w.heap.size + 1, 0, none⟩ = some (.int .i64 o.u) := HX1.out.cell 0
      have x1 : w1.cell? ⟨w.heap.size + 1, 1, none⟩ = some (.int .i64 o.e) := HX1.out.cell 1
      have x2 : w1.cell? ⟨w.heap.size + 1, 2, none⟩ = some (.int .i64 o.k) := HX1.out.cell 2
      have x3 : w1.cell? ⟨w.heap.size + 1, 3, none⟩ = some (.int .i64 o.i) := HX1.out.cell 3
      have x4 : w1.cell? ⟨w.heap.size + 1, 4, none⟩ = some (.int .i64 o.n) := HX1.out.cell 4
      have q0 : w1.cell? ⟨w.heap.size + 1 + 1, 0, none⟩ = some (.int .i64 0) := HQ1.out.cell 0
      have z0 : w1.frozen? ⟨w.heap.size + 1 + 1, 0, none⟩ = false := HQ1.out.frozen 0
      have q1 : w1.cell? ⟨w.heap.size + 1 + 1, 1, none⟩ = some (.int .i64 0) := HQ1.out.cell 1
      have z1 : w1.frozen? ⟨w.heap.size + 1 + 1, 1, none⟩ = false := HQ1.out.frozen 1
      have q2 : w1.cell? ⟨w.heap.size + 1 + 1, 2, none⟩ = some (.int .i64 0) := HQ1.out.cell 2
      have z2 : w1.frozen? ⟨w.heap.size + 1 + 1, 2, none⟩ = false := HQ1.out.frozen 2
      have q3 : w1.cell? ⟨w.heap.size + 1 + 1, 3, none⟩ = some (.int .i64 0) := HQ1.out.cell 3
      have z3 : w1.frozen? ⟨w.heap.size + 1 + 1, 3, none⟩ = false := HQ1.out.frozen 3
      have q4 : w1.cell? ⟨w.heap.size + 1 + 1, 4, none⟩ = some (.int .i64 0) := HQ1.out.cell 4
      have z4 : w1.frozen? ⟨w.heap.size + 1 + 1, 4, none⟩ = false := HQ1.out.frozen 4
      have q5 : w1.cell? ⟨w.heap.size + 1 + 1, 5, none⟩ = some (.int .i64 0) := HQ1.out.cell 5
      have z5 : w1.frozen? ⟨w.heap.size + 1 + 1, 5, none⟩ = false := HQ1.out.frozen 5
      have y0 : w1.frozen? ⟨w.heap.size, 0, none⟩ = false := HG1.out.frozen 0
      have y1 : w1.frozen? ⟨w.heap.size, 1, none⟩ = false := HG1.out.frozen 1
      have y2 : w1.frozen? ⟨w.heap.size, 2, none⟩ = false := HG1.out.frozen 2
      have y3 : w1.frozen? ⟨w.heap.size, 3, none⟩ = false := HG1.out.frozen 3
      have y4 : w1.frozen? ⟨w.heap.size, 4, none⟩ = false := HG1.out.frozen 4
      have y5 : w1.frozen? ⟨w.heap.size, 5, none⟩ = false := HG1.out.frozen 5
      have HST := Lib.hid (store6 HQ1.out rfl (.int .i64 f.u) (.int .i64 f.o.u) (.int .i64 f.o.e) (.int .i64 f.o.k) (.int .i64 f.o.i) (.int .i64 f.o.n))
      go_wp2_with fail
      have r0 := HST.out.1.cell 0
      have r1 := HST.out.1.cell 1
      have r2 := HST.out.1.cell 2
      have r3 := HST.out.1.cell 3
      have r4 := HST.out.1.cell 4
      have r5 := HST.out.1.cell 5
      simp only [List.getElem?_toArray, List.getElem?_cons_zero, List.getElem?_cons_succ] at r0 r1 r2 r3 r4 r5
      exact bodyPost_ret (v := .tuple #[.agg #[.int .i64 f.u, .int .i64 f.o.u, .int .i64 f.o.e, .int .i64 f.o.k, .int .i64 f.o.i, .int .i64 f.o.n], .bool false, .int .i64 1]) (by simp [results, Try.results13, go_sem, r0, r1, r2, r3, r4, r5]) rfl ⟨rfl, HB1.out.trans (HST.out.2.below (fun k e => by omega) HB1.out.size)⟩
end Go.Proofs.Ytikbenngbaicoaa
