/- Layer 28: the walks of the fence. -/
import Derived.Test.YtikbenngbaicoaaOrD
import Derived.Test.YtikbenngbaicoaaMem
namespace Go.Proofs.Ytikbenngbaicoaa
set_option linter.unusedSimpArgs false
set_option linter.unusedVariables false
open Go.RowKit

namespace Or
/-- a fence -/
structure F where
  u : Int
  o : O
  a : Bool
def zero : O := ⟨0, 0, 0, 0, 0⟩
def new (u : Int) : F := ⟨u, zero, false⟩
def refused (f : F) (o : O) : Bool := !valid o || o.u != f.u
def stale (f : F) (o : O) : Bool := f.a && decide (o.e ≤ f.o.e)
def acc (f : F) (o : O) : F := if refused f o || stale f o then f else ⟨f.u, o, true⟩
def accB (f : F) (o : O) : Bool := !(refused f o || stale f o)
def accE (f : F) (o : O) : Int := if refused f o then 1 else 0
def F64 (f : F) : Prop := O64 f.o
end Or
/-- a *order.Fence at block p -/
def FenceAt (w : World) (p : Nat) (f : Or.F) : Prop :=
  Blk w p 64 #[.int .i64 f.u, .int .i64 f.o.u, .int .i64 f.o.e, .int .i64 f.o.k, .int .i64 f.o.i, .int .i64 f.o.n, .bool f.a]
theorem FenceAt.low {w w' : World} {p : Nat} {f : Or.F} (h : FenceAt w p f) (hb : Below w.heap.size w w') : FenceAt w' p f := Blk.low h hb

theorem newFence_ok (n : Int) (w : World) (h : Or.vu n = true) :
    Calls Try.prog 10 #[.int .i64 n] w fun e w' => e = .returned (.tuple #[.pointer (some ⟨w.heap.size, 0, none⟩), .int .i64 0]) ∧ FenceAt w' w.heap.size (Or.new n) ∧ Below w.heap.size w w' := by
  go_enter Try.func10, Try.ntmps10
  go_wp2_with (go_at_call 29; refine (vu_any _ _).mono ?_; rw [h]; rintro e w' ⟨rfl, rfl⟩)
  go_ret2
  exact ⟨rfl, Blk.new _ _ _, (Below.refl _ _).alloc (Nat.le_refl _) _⟩
theorem newFence_bad (n : Int) (w : World) (h : Or.vu n = false) :
    Calls Try.prog 10 #[.int .i64 n] w fun e w' => e = .returned (.tuple #[.pointer none, .int .i64 1]) ∧ w = w' := by
  go_enter Try.func10, Try.ntmps10
  go_wp2_with (go_at_call 29; refine (vu_any _ _).mono ?_; rw [h]; rintro e w' ⟨rfl, rfl⟩)
  go_ret2
  exact ⟨rfl, rfl⟩

set_option maxRecDepth 100000 in
set_option maxHeartbeats 1000000 in
theorem accept_invalid (p : Nat) (f : Or.F) (o : Or.O) (w : World) (h : FenceAt w p f) (hv : Or.valid o = false) :
    Calls Try.prog 12 #[.pointer (some ⟨p, 0, none⟩), .agg #[.int .i64 o.u, .int .i64 o.e, .int .i64 o.k, .int .i64 o.i, .int .i64 o.n]] w fun e w' => e = .returned (.tuple #[.bool (Or.accB f o), .int .i64 (Or.accE f o)]) ∧ FenceAt w' p (Or.acc f o) ∧ Chg (· = p) w w' := by
  have hpl := Blk.lt h
  have HF := Lib.hid (Blk.alloc h (.cells #[.int .i64 o.u, .int .i64 o.e, .int .i64 o.k, .int .i64 o.i, .int .i64 o.n] 29))
  have HX := Lib.hid (Blk.new w 29 #[.int .i64 o.u, .int .i64 o.e, .int .i64 o.k, .int .i64 o.i, .int .i64 o.n])
  have HB := Lib.hid ((Below.refl w.heap.size w).alloc (Nat.le_refl _) (.cells #[.int .i64 o.u, .int .i64 o.e, .int .i64 o.k, .int .i64 o.i, .int .i64 o.n] 29))
  clear h
  have HE := Lib.hid (show Or.accE f o = 1 ∧ Or.accB f o = false ∧ Or.acc f o = f by unfold Or.accE Or.accB Or.acc Or.refused; rw [hv]; exact ⟨rfl, rfl, rfl⟩)
  have HV := Lib.hid hv
  clear hv
  go_enter Try.func12, Try.ntmps12
  go_wp2
  have f0 : (w.alloc (.cells #[.int .i64 o.u, .int .i64 o.e, .int .i64 o.k, .int .i64 o.i, .int .i64 o.n] 29)).cell? ⟨p, 0, none⟩ = some (.int .i64 f.u) := HF.out.cell 0
  have f2 : (w.alloc (.cells #[.int .i64 o.u, .int .i64 o.e, .int .i64 o.k, .int .i64 o.i, .int .i64 o.n] 29)).cell? ⟨p, 2, none⟩ = some (.int .i64 f.o.e) := HF.out.cell 2
  have f6 : (w.alloc (.cells #[.int .i64 o.u, .int .i64 o.e, .int .i64 o.k, .int .i64 o.i, .int .i64 o.n] 29)).cell? ⟨p, 6, none⟩ = some (.bool f.a) := HF.out.cell 6
  have x0 : (w.alloc (.cells #[.int .i64 o.u, .int .i64 o.e, .int .i64 o.k, .int .i64 o.i, .int .i64 o.n] 29)).cell? ⟨w.heap.size, 0, none⟩ = some (.int .i64 o.u) := HX.out.cell 0
  have x1 : (w.alloc (.cells #[.int .i64 o.u, .int .i64 o.e, .int .i64 o.k, .int .i64 o.i, .int .i64 o.n] 29)).cell? ⟨w.heap.size, 1, none⟩ = some (.int .i64 o.e) := HX.out.cell 1
  have x2 : (w.alloc (.cells #[.int .i64 o.u, .int .i64 o.e, .int .i64 o.k, .int .i64 o.i, .int .i64 o.n] 29)).cell? ⟨w.heap.size, 2, none⟩ = some (.int .i64 o.k) := HX.out.cell 2
  have x3 : (w.alloc (.cells #[.int .i64 o.u, .int .i64 o.e, .int .i64 o.k, .int .i64 o.i, .int .i64 o.n] 29)).cell? ⟨w.heap.size, 3, none⟩ = some (.int .i64 o.i) := HX.out.cell 3
  have x4 : (w.alloc (.cells #[.int .i64 o.u, .int .i64 o.e, .int .i64 o.k, .int .i64 o.i, .int .i64 o.n] 29)).cell? ⟨w.heap.size, 4, none⟩ = some (.int .i64 o.n) := HX.out.cell 4
  have kf0 := cell_regrown f0
  have kf2 := cell_regrown f2
  have kf6 := cell_regrown f6
  have kx0 := cell_regrown x0
  have kx1 := cell_regrown x1
  have kx2 := cell_regrown x2
  have kx3 := cell_regrown x3
  have kx4 := cell_regrown x4
  have cV := calls_qb (P := Try.prog) (f := 21) (args := #[.agg #[.int .i64 o.u, .int .i64 o.e, .int .i64 o.k, .int .i64 o.i, .int .i64 o.n]]) (w := w.alloc (.cells #[.int .i64 o.u, .int .i64 o.e, .int .i64 o.k, .int .i64 o.i, .int .i64 o.n] 29)) (v := .bool false) (fun w' _ => (valid_any o w').mono (by rw [HV.out]; exact fun _ _ h => h))
  refine wp_region_qb (by kernel_rfl) (by kernel_rfl) ?_
  repeat (first | go_big_quiet_step (exact cV _ _) | quiet_step (exact cV _ _))
  refine wpQuiet_nil ?_
  intro w2 hb2
  have HF2 := Lib.hid (Blk.low HF.out hb2)
  have HX2 := Lib.hid (Blk.low HX.out hb2)
  have HB2 := Lib.hid (HB.out.trans (hb2.mono (by simp)))
  clear hb2 cV f0 kf0 f2 kf2 f6 kf6 x0 kx0 x1 kx1 x2 kx2 x3 kx3 x4 kx4
  all_goals
    go_wp2
    go_ret2
    exact ⟨by rw [HE.out.1, HE.out.2.1]; rfl, by rw [HE.out.2.2]; exact HF2.out, Chg.of_below HB2.out _⟩
set_option maxRecDepth 100000 in
set_option maxHeartbeats 1000000 in
theorem accept_other (p : Nat) (f : Or.F) (o : Or.O) (w : World) (h : FenceAt w p f) (hv : Or.valid o = true) (hq : (o.u != f.u) = true) :
    Calls Try.prog 12 #[.pointer (some ⟨p, 0, none⟩), .agg #[.int .i64 o.u, .int .i64 o.e, .int .i64 o.k, .int .i64 o.i, .int .i64 o.n]] w fun e w' => e = .returned (.tuple #[.bool (Or.accB f o), .int .i64 (Or.accE f o)]) ∧ FenceAt w' p (Or.acc f o) ∧ Chg (· = p) w w' := by
  have hpl := Blk.lt h
  have HF := Lib.hid (Blk.alloc h (.cells #[.int .i64 o.u, .int .i64 o.e, .int .i64 o.k, .int .i64 o.i, .int .i64 o.n] 29))
  have HX := Lib.hid (Blk.new w 29 #[.int .i64 o.u, .int .i64 o.e, .int .i64 o.k, .int .i64 o.i, .int .i64 o.n])
  have HB := Lib.hid ((Below.refl w.heap.size w).alloc (Nat.le_refl _) (.cells #[.int .i64 o.u, .int .i64 o.e, .int .i64 o.k, .int .i64 o.i, .int .i64 o.n] 29))
  clear h
  have HE := Lib.hid (show Or.accE f o = 1 ∧ Or.accB f o = false ∧ Or.acc f o = f by unfold Or.accE Or.accB Or.acc Or.refused; rw [hv, hq]; exact ⟨rfl, rfl, rfl⟩)
  have HV := Lib.hid hv
  clear hv
  go_enter Try.func12, Try.ntmps12
  go_wp2
  have f0 : (w.alloc (.cells #[.int .i64 o.u, .int .i64 o.e, .int .i64 o.k, .int .i64 o.i, .int .i64 o.n] 29)).cell? ⟨p, 0, none⟩ = some (.int .i64 f.u) := HF.out.cell 0
  have f2 : (w.alloc (.cells #[.int .i64 o.u, .int .i64 o.e, .int .i64 o.k, .int .i64 o.i, .int .i64 o.n] 29)).cell? ⟨p, 2, none⟩ = some (.int .i64 f.o.e) := HF.out.cell 2
  have f6 : (w.alloc (.cells #[.int .i64 o.u, .int .i64 o.e, .int .i64 o.k, .int .i64 o.i, .int .i64 o.n] 29)).cell? ⟨p, 6, none⟩ = some (.bool f.a) := HF.out.cell 6
  have x0 : (w.alloc (.cells #[.int .i64 o.u, .int .i64 o.e, .int .i64 o.k, .int .i64 o.i, .int .i64 o.n] 29)).cell? ⟨w.heap.size, 0, none⟩ = some (.int .i64 o.u) := HX.out.cell 0
  have x1 : (w.alloc (.cells #[.int .i64 o.u, .int .i64 o.e, .int .i64 o.k, .int .i64 o.i, .int .i64 o.n] 29)).cell? ⟨w.heap.size, 1, none⟩ = some (.int .i64 o.e) := HX.out.cell 1
  have x2 : (w.alloc (.cells #[.int .i64 o.u, .int .i64 o.e, .int .i64 o.k, .int .i64 o.i, .int .i64 o.n] 29)).cell? ⟨w.heap.size, 2, none⟩ = some (.int .i64 o.k) := HX.out.cell 2
  have x3 : (w.alloc (.cells #[.int .i64 o.u, .int .i64 o.e, .int .i64 o.k, .int .i64 o.i, .int .i64 o.n] 29)).cell? ⟨w.heap.size, 3, none⟩ = some (.int .i64 o.i) := HX.out.cell 3
  have x4 : (w.alloc (.cells #[.int .i64 o.u, .int .i64 o.e, .int .i64 o.k, .int .i64 o.i, .int .i64 o.n] 29)).cell? ⟨w.heap.size, 4, none⟩ = some (.int .i64 o.n) := HX.out.cell 4
  have kf0 := cell_regrown f0
  have kf2 := cell_regrown f2
  have kf6 := cell_regrown f6
  have kx0 := cell_regrown x0
  have kx1 := cell_regrown x1
  have kx2 := cell_regrown x2
  have kx3 := cell_regrown x3
  have kx4 := cell_regrown x4
  have cV := calls_qb (P := Try.prog) (f := 21) (args := #[.agg #[.int .i64 o.u, .int .i64 o.e, .int .i64 o.k, .int .i64 o.i, .int .i64 o.n]]) (w := w.alloc (.cells #[.int .i64 o.u, .int .i64 o.e, .int .i64 o.k, .int .i64 o.i, .int .i64 o.n] 29)) (v := .bool true) (fun w' _ => (valid_any o w').mono (by rw [HV.out]; exact fun _ _ h => h))
  refine wp_region_qb (by kernel_rfl) (by kernel_rfl) ?_
  repeat (first | go_big_quiet_step (exact cV _ _) | quiet_step (exact cV _ _))
  refine wpQuiet_nil ?_
  intro w2 hb2
  have HF2 := Lib.hid (Blk.low HF.out hb2)
  have HX2 := Lib.hid (Blk.low HX.out hb2)
  have HB2 := Lib.hid (HB.out.trans (hb2.mono (by simp)))
  clear hb2 cV f0 kf0 f2 kf2 f6 kf6 x0 kx0 x1 kx1 x2 kx2 x3 kx3 x4 kx4
  all_goals
    go_wp2
    go_ret2
    exact ⟨by rw [HE.out.1, HE.out.2.1]; rfl, by rw [HE.out.2.2]; exact HF2.out, Chg.of_below HB2.out _⟩
set_option maxRecDepth 100000 in
set_option maxHeartbeats 1000000 in
theorem accept_first (p : Nat) (f : Or.F) (o : Or.O) (w : World) (h : FenceAt w p f) (hv : Or.valid o = true) (hq : (o.u != f.u) = false) (ha : f.a = false) :
    Calls Try.prog 12 #[.pointer (some ⟨p, 0, none⟩), .agg #[.int .i64 o.u, .int .i64 o.e, .int .i64 o.k, .int .i64 o.i, .int .i64 o.n]] w fun e w' => e = .returned (.tuple #[.bool (Or.accB f o), .int .i64 (Or.accE f o)]) ∧ FenceAt w' p (Or.acc f o) ∧ Chg (· = p) w w' := by
  have hpl := Blk.lt h
  have HF := Lib.hid (Blk.alloc h (.cells #[.int .i64 o.u, .int .i64 o.e, .int .i64 o.k, .int .i64 o.i, .int .i64 o.n] 29))
  have HX := Lib.hid (Blk.new w 29 #[.int .i64 o.u, .int .i64 o.e, .int .i64 o.k, .int .i64 o.i, .int .i64 o.n])
  have HB := Lib.hid ((Below.refl w.heap.size w).alloc (Nat.le_refl _) (.cells #[.int .i64 o.u, .int .i64 o.e, .int .i64 o.k, .int .i64 o.i, .int .i64 o.n] 29))
  clear h
  have HE := Lib.hid (show Or.accE f o = 0 ∧ Or.accB f o = true ∧ Or.acc f o = ⟨f.u, o, true⟩ by unfold Or.accE Or.accB Or.acc Or.stale Or.refused; rw [hv, hq, ha]; exact ⟨rfl, rfl, rfl⟩)
  have HV := Lib.hid hv
  have HA := Lib.hid ha
  clear hv ha
  go_enter Try.func12, Try.ntmps12
  go_wp2
  have f0 : (w.alloc (.cells #[.int .i64 o.u, .int .i64 o.e, .int .i64 o.k, .int .i64 o.i, .int .i64 o.n] 29)).cell? ⟨p, 0, none⟩ = some (.int .i64 f.u) := HF.out.cell 0
  have f2 : (w.alloc (.cells #[.int .i64 o.u, .int .i64 o.e, .int .i64 o.k, .int .i64 o.i, .int .i64 o.n] 29)).cell? ⟨p, 2, none⟩ = some (.int .i64 f.o.e) := HF.out.cell 2
  have f6 : (w.alloc (.cells #[.int .i64 o.u, .int .i64 o.e, .int .i64 o.k, .int .i64 o.i, .int .i64 o.n] 29)).cell? ⟨p, 6, none⟩ = some (.bool f.a) := HF.out.cell 6
  have x0 : (w.alloc (.cells #[.int .i64 o.u, .int .i64 o.e, .int .i64 o.k, .int .i64 o.i, .int .i64 o.n] 29)).cell? ⟨w.heap.size, 0, none⟩ = some (.int .i64 o.u) := HX.out.cell 0
  have x1 : (w.alloc (.cells #[.int .i64 o.u, .int .i64 o.e, .int .i64 o.k, .int .i64 o.i, .int .i64 o.n] 29)).cell? ⟨w.heap.size, 1, none⟩ = some (.int .i64 o.e) := HX.out.cell 1
  have x2 : (w.alloc (.cells #[.int .i64 o.u, .int .i64 o.e, .int .i64 o.k, .int .i64 o.i, .int .i64 o.n] 29)).cell? ⟨w.heap.size, 2, none⟩ = some (.int .i64 o.k) := HX.out.cell 2
  have x3 : (w.alloc (.cells #[.int .i64 o.u, .int .i64 o.e, .int .i64 o.k, .int .i64 o.i, .int .i64 o.n] 29)).cell? ⟨w.heap.size, 3, none⟩ = some (.int .i64 o.i) := HX.out.cell 3
  have x4 : (w.alloc (.cells #[.int .i64 o.u, .int .i64 o.e, .int .i64 o.k, .int .i64 o.i, .int .i64 o.n] 29)).cell? ⟨w.heap.size, 4, none⟩ = some (.int .i64 o.n) := HX.out.cell 4
  have kf0 := cell_regrown f0
  have kf2 := cell_regrown f2
  have kf6 := cell_regrown f6
  have kx0 := cell_regrown x0
  have kx1 := cell_regrown x1
  have kx2 := cell_regrown x2
  have kx3 := cell_regrown x3
  have kx4 := cell_regrown x4
  have cV := calls_qb (P := Try.prog) (f := 21) (args := #[.agg #[.int .i64 o.u, .int .i64 o.e, .int .i64 o.k, .int .i64 o.i, .int .i64 o.n]]) (w := w.alloc (.cells #[.int .i64 o.u, .int .i64 o.e, .int .i64 o.k, .int .i64 o.i, .int .i64 o.n] 29)) (v := .bool true) (fun w' _ => (valid_any o w').mono (by rw [HV.out]; exact fun _ _ h => h))
  refine wp_region_qb (by kernel_rfl) (by kernel_rfl) ?_
  repeat (first | go_big_quiet_step (exact cV _ _) | quiet_step (exact cV _ _))
  refine wpQuiet_nil ?_
  intro w2 hb2
  have HF2 := Lib.hid (Blk.low HF.out hb2)
  have HX2 := Lib.hid (Blk.low HX.out hb2)
  have HB2 := Lib.hid (HB.out.trans (hb2.mono (by simp)))
  clear hb2 cV f0 kf0 f2 kf2 f6 kf6 x0 kx0 x1 kx1 x2 kx2 x3 kx3 x4 kx4
  go_wp2
  have f0 : w2.cell? ⟨p, 0, none⟩ = some (.int .i64 f.u) := HF2.out.cell 0
  have f1 : w2.cell? ⟨p, 1, none⟩ = some (.int .i64 f.o.u) := HF2.out.cell 1
  have f2 : w2.cell? ⟨p, 2, none⟩ = some (.int .i64 f.o.e) := HF2.out.cell 2
  have f3 : w2.cell? ⟨p, 3, none⟩ = some (.int .i64 f.o.k) := HF2.out.cell 3
  have f4 : w2.cell? ⟨p, 4, none⟩ = some (.int .i64 f.o.i) := HF2.out.cell 4
  have f5 : w2.cell? ⟨p, 5, none⟩ = some (.int .i64 f.o.n) := HF2.out.cell 5
  have f6 : w2.cell? ⟨p, 6, none⟩ = some (.bool f.a) := HF2.out.cell 6
  have x0 : w2.cell? ⟨w.heap.size, 0, none⟩ = some (.int .i64 o.u) := HX2.out.cell 0
  have x1 : w2.cell? ⟨w.heap.size, 1, none⟩ = some (.int .i64 o.e) := HX2.out.cell 1
  have x2 : w2.cell? ⟨w.heap.size, 2, none⟩ = some (.int .i64 o.k) := HX2.out.cell 2
  have x3 : w2.cell? ⟨w.heap.size, 3, none⟩ = some (.int .i64 o.i) := HX2.out.cell 3
  have x4 : w2.cell? ⟨w.heap.size, 4, none⟩ = some (.int .i64 o.n) := HX2.out.cell 4
  rw [HA.out] at f6
  have kf0 := cell_regrown f0
  have kf1 := cell_regrown f1
  have kf2 := cell_regrown f2
  have kf3 := cell_regrown f3
  have kf4 := cell_regrown f4
  have kf5 := cell_regrown f5
  have kf6 := cell_regrown f6
  have kx0 := cell_regrown x0
  have kx1 := cell_regrown x1
  have kx2 := cell_regrown x2
  have kx3 := cell_regrown x3
  have kx4 := cell_regrown x4
  refine wp_region_qb (by kernel_rfl) (by kernel_rfl) ?_
  repeat (first | go_big_quiet_step (fail) | quiet_step (fail))
  refine wpQuiet_nil ?_
  intro w3 hb3
  have HF3 := Lib.hid (Blk.low HF2.out hb3)
  have HX3 := Lib.hid (Blk.low HX2.out hb3)
  have HB3 := Lib.hid (HB2.out.trans (hb3.mono HB2.out.size))
  clear hb3 f0 f1 f2 f3 f4 f5 f6 x0 x1 x2 x3 x4 kf0 kf1 kf2 kf3 kf4 kf5 kf6 kx0 kx1 kx2 kx3 kx4
  have f0 : w3.cell? ⟨p, 0, none⟩ = some (.int .i64 f.u) := HF3.out.cell 0
  have f1 : w3.cell? ⟨p, 1, none⟩ = some (.int .i64 f.o.u) := HF3.out.cell 1
  have f2 : w3.cell? ⟨p, 2, none⟩ = some (.int .i64 f.o.e) := HF3.out.cell 2
  have f3 : w3.cell? ⟨p, 3, none⟩ = some (.int .i64 f.o.k) := HF3.out.cell 3
  have f4 : w3.cell? ⟨p, 4, none⟩ = some (.int .i64 f.o.i) := HF3.out.cell 4
  have f5 : w3.cell? ⟨p, 5, none⟩ = some (.int .i64 f.o.n) := HF3.out.cell 5
  have f6 : w3.cell? ⟨p, 6, none⟩ = some (.bool f.a) := HF3.out.cell 6
  have x0 : w3.cell? ⟨w.heap.size, 0, none⟩ = some (.int .i64 o.u) := HX3.out.cell 0
  have x1 : w3.cell? ⟨w.heap.size, 1, none⟩ = some (.int .i64 o.e) := HX3.out.cell 1
  have x2 : w3.cell? ⟨w.heap.size, 2, none⟩ = some (.int .i64 o.k) := HX3.out.cell 2
  have x3 : w3.cell? ⟨w.heap.size, 3, none⟩ = some (.int .i64 o.i) := HX3.out.cell 3
  have x4 : w3.cell? ⟨w.heap.size, 4, none⟩ = some (.int .i64 o.n) := HX3.out.cell 4
  have z0 := HF3.out.frozen 0
  have z1 := HF3.out.frozen 1
  have z2 := HF3.out.frozen 2
  have z3 := HF3.out.frozen 3
  have z4 := HF3.out.frozen 4
  have z5 := HF3.out.frozen 5
  have z6 := HF3.out.frozen 6
  go_wp2
  go_ret2
  rw [HE.out.1, HE.out.2.1, HE.out.2.2]
  refine ⟨rfl, ?_, ?_⟩
  · exact (((((HF3.out.set_ 1 (.int .i64 o.u)).set_ 2 (.int .i64 o.e)).set_ 3 (.int .i64 o.k)).set_ 4 (.int .i64 o.i)).set_ 5 (.int .i64 o.n)).set_ 6 (.bool true)
  · exact ((((((Chg.of_below HB3.out (· = p)).trans (Chg.setCell w3 ⟨p, 1, none⟩ (.int .i64 o.u)) (fun _ _ h => h)).trans (Chg.setCell _ ⟨p, 2, none⟩ (.int .i64 o.e)) (fun _ _ h => h)).trans (Chg.setCell _ ⟨p, 3, none⟩ (.int .i64 o.k)) (fun _ _ h => h)).trans (Chg.setCell _ ⟨p, 4, none⟩ (.int .i64 o.i)) (fun _ _ h => h)).trans (Chg.setCell _ ⟨p, 5, none⟩ (.int .i64 o.n)) (fun _ _ h => h)).trans (Chg.setCell _ ⟨p, 6, none⟩ (.bool true)) (fun _ _ h => h)
set_option maxRecDepth 100000 in
set_option maxHeartbeats 1000000 in
theorem accept_stale (p : Nat) (f : Or.F) (o : Or.O) (w : World) (h : FenceAt w p f) (hv : Or.valid o = true) (hq : (o.u != f.u) = false) (ha : f.a = true) (he : o.e ≤ f.o.e) :
    Calls Try.prog 12 #[.pointer (some ⟨p, 0, none⟩), .agg #[.int .i64 o.u, .int .i64 o.e, .int .i64 o.k, .int .i64 o.i, .int .i64 o.n]] w fun e w' => e = .returned (.tuple #[.bool (Or.accB f o), .int .i64 (Or.accE f o)]) ∧ FenceAt w' p (Or.acc f o) ∧ Chg (· = p) w w' := by
  have hpl := Blk.lt h
  have HF := Lib.hid (Blk.alloc h (.cells #[.int .i64 o.u, .int .i64 o.e, .int .i64 o.k, .int .i64 o.i, .int .i64 o.n] 29))
  have HX := Lib.hid (Blk.new w 29 #[.int .i64 o.u, .int .i64 o.e, .int .i64 o.k, .int .i64 o.i, .int .i64 o.n])
  have HB := Lib.hid ((Below.refl w.heap.size w).alloc (Nat.le_refl _) (.cells #[.int .i64 o.u, .int .i64 o.e, .int .i64 o.k, .int .i64 o.i, .int .i64 o.n] 29))
  clear h
  have HE := Lib.hid (show Or.accE f o = 0 ∧ Or.accB f o = false ∧ Or.acc f o = f by unfold Or.accE Or.accB Or.acc Or.stale Or.refused; rw [hv, hq, ha, decide_eq_true he]; exact ⟨rfl, rfl, rfl⟩)
  have HV := Lib.hid hv
  have HA := Lib.hid ha
  clear hv ha
  go_enter Try.func12, Try.ntmps12
  go_wp2
  have f0 : (w.alloc (.cells #[.int .i64 o.u, .int .i64 o.e, .int .i64 o.k, .int .i64 o.i, .int .i64 o.n] 29)).cell? ⟨p, 0, none⟩ = some (.int .i64 f.u) := HF.out.cell 0
  have f2 : (w.alloc (.cells #[.int .i64 o.u, .int .i64 o.e, .int .i64 o.k, .int .i64 o.i, .int .i64 o.n] 29)).cell? ⟨p, 2, none⟩ = some (.int .i64 f.o.e) := HF.out.cell 2
  have f6 : (w.alloc (.cells #[.int .i64 o.u, .int .i64 o.e, .int .i64 o.k, .int .i64 o.i, .int .i64 o.n] 29)).cell? ⟨p, 6, none⟩ = some (.bool f.a) := HF.out.cell 6
  have x0 : (w.alloc (.cells #[.int .i64 o.u, .int .i64 o.e, .int .i64 o.k, .int .i64 o.i, .int .i64 o.n] 29)).cell? ⟨w.heap.size, 0, none⟩ = some (.int .i64 o.u) := HX.out.cell 0
  have x1 : (w.alloc (.cells #[.int .i64 o.u, .int .i64 o.e, .int .i64 o.k, .int .i64 o.i, .int .i64 o.n] 29)).cell? ⟨w.heap.size, 1, none⟩ = some (.int .i64 o.e) := HX.out.cell 1
  have x2 : (w.alloc (.cells #[.int .i64 o.u, .int .i64 o.e, .int .i64 o.k, .int .i64 o.i, .int .i64 o.n] 29)).cell? ⟨w.heap.size, 2, none⟩ = some (.int .i64 o.k) := HX.out.cell 2
  have x3 : (w.alloc (.cells #[.int .i64 o.u, .int .i64 o.e, .int .i64 o.k, .int .i64 o.i, .int .i64 o.n] 29)).cell? ⟨w.heap.size, 3, none⟩ = some (.int .i64 o.i) := HX.out.cell 3
  have x4 : (w.alloc (.cells #[.int .i64 o.u, .int .i64 o.e, .int .i64 o.k, .int .i64 o.i, .int .i64 o.n] 29)).cell? ⟨w.heap.size, 4, none⟩ = some (.int .i64 o.n) := HX.out.cell 4
  have kf0 := cell_regrown f0
  have kf2 := cell_regrown f2
  have kf6 := cell_regrown f6
  have kx0 := cell_regrown x0
  have kx1 := cell_regrown x1
  have kx2 := cell_regrown x2
  have kx3 := cell_regrown x3
  have kx4 := cell_regrown x4
  have cV := calls_qb (P := Try.prog) (f := 21) (args := #[.agg #[.int .i64 o.u, .int .i64 o.e, .int .i64 o.k, .int .i64 o.i, .int .i64 o.n]]) (w := w.alloc (.cells #[.int .i64 o.u, .int .i64 o.e, .int .i64 o.k, .int .i64 o.i, .int .i64 o.n] 29)) (v := .bool true) (fun w' _ => (valid_any o w').mono (by rw [HV.out]; exact fun _ _ h => h))
  refine wp_region_qb (by kernel_rfl) (by kernel_rfl) ?_
  repeat (first | go_big_quiet_step (exact cV _ _) | quiet_step (exact cV _ _))
  refine wpQuiet_nil ?_
  intro w2 hb2
  have HF2 := Lib.hid (Blk.low HF.out hb2)
  have HX2 := Lib.hid (Blk.low HX.out hb2)
  have HB2 := Lib.hid (HB.out.trans (hb2.mono (by simp)))
  clear hb2 cV f0 kf0 f2 kf2 f6 kf6 x0 kx0 x1 kx1 x2 kx2 x3 kx3 x4 kx4
  go_wp2
  have f0 : w2.cell? ⟨p, 0, none⟩ = some (.int .i64 f.u) := HF2.out.cell 0
  have f1 : w2.cell? ⟨p, 1, none⟩ = some (.int .i64 f.o.u) := HF2.out.cell 1
  have f2 : w2.cell? ⟨p, 2, none⟩ = some (.int .i64 f.o.e) := HF2.out.cell 2
  have f3 : w2.cell? ⟨p, 3, none⟩ = some (.int .i64 f.o.k) := HF2.out.cell 3
  have f4 : w2.cell? ⟨p, 4, none⟩ = some (.int .i64 f.o.i) := HF2.out.cell 4
  have f5 : w2.cell? ⟨p, 5, none⟩ = some (.int .i64 f.o.n) := HF2.out.cell 5
  have f6 : w2.cell? ⟨p, 6, none⟩ = some (.bool f.a) := HF2.out.cell 6
  have x0 : w2.cell? ⟨w.heap.size, 0, none⟩ = some (.int .i64 o.u) := HX2.out.cell 0
  have x1 : w2.cell? ⟨w.heap.size, 1, none⟩ = some (.int .i64 o.e) := HX2.out.cell 1
  have x2 : w2.cell? ⟨w.heap.size, 2, none⟩ = some (.int .i64 o.k) := HX2.out.cell 2
  have x3 : w2.cell? ⟨w.heap.size, 3, none⟩ = some (.int .i64 o.i) := HX2.out.cell 3
  have x4 : w2.cell? ⟨w.heap.size, 4, none⟩ = some (.int .i64 o.n) := HX2.out.cell 4
  rw [HA.out] at f6
  have kf0 := cell_regrown f0
  have kf1 := cell_regrown f1
  have kf2 := cell_regrown f2
  have kf3 := cell_regrown f3
  have kf4 := cell_regrown f4
  have kf5 := cell_regrown f5
  have kf6 := cell_regrown f6
  have kx0 := cell_regrown x0
  have kx1 := cell_regrown x1
  have kx2 := cell_regrown x2
  have kx3 := cell_regrown x3
  have kx4 := cell_regrown x4
  refine wp_region_qb (by kernel_rfl) (by kernel_rfl) ?_
  repeat (first | go_big_quiet_step (fail) | quiet_step (fail))
  refine wpQuiet_nil ?_
  intro w3 hb3
  have HF3 := Lib.hid (Blk.low HF2.out hb3)
  have HX3 := Lib.hid (Blk.low HX2.out hb3)
  have HB3 := Lib.hid (HB2.out.trans (hb3.mono HB2.out.size))
  clear hb3 f0 f1 f2 f3 f4 f5 f6 x0 x1 x2 x3 x4 kf0 kf1 kf2 kf3 kf4 kf5 kf6 kx0 kx1 kx2 kx3 kx4
  go_wp2
  go_ret2
  rw [HE.out.1, HE.out.2.1, HE.out.2.2]
  exact ⟨rfl, HF3.out, Chg.of_below HB3.out _⟩
set_option maxRecDepth 100000 in
set_option maxHeartbeats 1000000 in
theorem accept_newer (p : Nat) (f : Or.F) (o : Or.O) (w : World) (h : FenceAt w p f) (hv : Or.valid o = true) (hq : (o.u != f.u) = false) (ha : f.a = true) (he : ¬ o.e ≤ f.o.e) :
    Calls Try.prog 12 #[.pointer (some ⟨p, 0, none⟩), .agg #[.int .i64 o.u, .int .i64 o.e, .int .i64 o.k, .int .i64 o.i, .int .i64 o.n]] w fun e w' => e = .returned (.tuple #[.bool (Or.accB f o), .int .i64 (Or.accE f o)]) ∧ FenceAt w' p (Or.acc f o) ∧ Chg (· = p) w w' := by
  have hpl := Blk.lt h
  have HF := Lib.hid (Blk.alloc h (.cells #[.int .i64 o.u, .int .i64 o.e, .int .i64 o.k, .int .i64 o.i, .int .i64 o.n] 29))
  have HX := Lib.hid (Blk.new w 29 #[.int .i64 o.u, .int .i64 o.e, .int .i64 o.k, .int .i64 o.i, .int .i64 o.n])
  have HB := Lib.hid ((Below.refl w.heap.size w).alloc (Nat.le_refl _) (.cells #[.int .i64 o.u, .int .i64 o.e, .int .i64 o.k, .int .i64 o.i, .int .i64 o.n] 29))
  clear h
  have HE := Lib.hid (show Or.accE f o = 0 ∧ Or.accB f o = true ∧ Or.acc f o = ⟨f.u, o, true⟩ by unfold Or.accE Or.accB Or.acc Or.stale Or.refused; rw [hv, hq, ha, decide_eq_false he]; exact ⟨rfl, rfl, rfl⟩)
  have HV := Lib.hid hv
  have HA := Lib.hid ha
  clear hv ha
  go_enter Try.func12, Try.ntmps12
  go_wp2
  have f0 : (w.alloc (.cells #[.int .i64 o.u, .int .i64 o.e, .int .i64 o.k, .int .i64 o.i, .int .i64 o.n] 29)).cell? ⟨p, 0, none⟩ = some (.int .i64 f.u) := HF.out.cell 0
  have f2 : (w.alloc (.cells #[.int .i64 o.u, .int .i64 o.e, .int .i64 o.k, .int .i64 o.i, .int .i64 o.n] 29)).cell? ⟨p, 2, none⟩ = some (.int .i64 f.o.e) := HF.out.cell 2
  have f6 : (w.alloc (.cells #[.int .i64 o.u, .int .i64 o.e, .int .i64 o.k, .int .i64 o.i, .int .i64 o.n] 29)).cell? ⟨p, 6, none⟩ = some (.bool f.a) := HF.out.cell 6
  have x0 : (w.alloc (.cells #[.int .i64 o.u, .int .i64 o.e, .int .i64 o.k, .int .i64 o.i, .int .i64 o.n] 29)).cell? ⟨w.heap.size, 0, none⟩ = some (.int .i64 o.u) := HX.out.cell 0
  have x1 : (w.alloc (.cells #[.int .i64 o.u, .int .i64 o.e, .int .i64 o.k, .int .i64 o.i, .int .i64 o.n] 29)).cell? ⟨w.heap.size, 1, none⟩ = some (.int .i64 o.e) := HX.out.cell 1
  have x2 : (w.alloc (.cells #[.int .i64 o.u, .int .i64 o.e, .int .i64 o.k, .int .i64 o.i, .int .i64 o.n] 29)).cell? ⟨w.heap.size, 2, none⟩ = some (.int .i64 o.k) := HX.out.cell 2
  have x3 : (w.alloc (.cells #[.int .i64 o.u, .int .i64 o.e, .int .i64 o.k, .int .i64 o.i, .int .i64 o.n] 29)).cell? ⟨w.heap.size, 3, none⟩ = some (.int .i64 o.i) := HX.out.cell 3
  have x4 : (w.alloc (.cells #[.int .i64 o.u, .int .i64 o.e, .int .i64 o.k, .int .i64 o.i, .int .i64 o.n] 29)).cell? ⟨w.heap.size, 4, none⟩ = some (.int .i64 o.n) := HX.out.cell 4
  have kf0 := cell_regrown f0
  have kf2 := cell_regrown f2
  have kf6 := cell_regrown f6
  have kx0 := cell_regrown x0
  have kx1 := cell_regrown x1
  have kx2 := cell_regrown x2
  have kx3 := cell_regrown x3
  have kx4 := cell_regrown x4
  have cV := calls_qb (P := Try.prog) (f := 21) (args := #[.agg #[.int .i64 o.u, .int .i64 o.e, .int .i64 o.k, .int .i64 o.i, .int .i64 o.n]]) (w := w.alloc (.cells #[.int .i64 o.u, .int .i64 o.e, .int .i64 o.k, .int .i64 o.i, .int .i64 o.n] 29)) (v := .bool true) (fun w' _ => (valid_any o w').mono (by rw [HV.out]; exact fun _ _ h => h))
  refine wp_region_qb (by kernel_rfl) (by kernel_rfl) ?_
  repeat (first | go_big_quiet_step (exact cV _ _) | quiet_step (exact cV _ _))
  refine wpQuiet_nil ?_
  intro w2 hb2
  have HF2 := Lib.hid (Blk.low HF.out hb2)
  have HX2 := Lib.hid (Blk.low HX.out hb2)
  have HB2 := Lib.hid (HB.out.trans (hb2.mono (by simp)))
  clear hb2 cV f0 kf0 f2 kf2 f6 kf6 x0 kx0 x1 kx1 x2 kx2 x3 kx3 x4 kx4
  go_wp2
  have f0 : w2.cell? ⟨p, 0, none⟩ = some (.int .i64 f.u) := HF2.out.cell 0
  have f1 : w2.cell? ⟨p, 1, none⟩ = some (.int .i64 f.o.u) := HF2.out.cell 1
  have f2 : w2.cell? ⟨p, 2, none⟩ = some (.int .i64 f.o.e) := HF2.out.cell 2
  have f3 : w2.cell? ⟨p, 3, none⟩ = some (.int .i64 f.o.k) := HF2.out.cell 3
  have f4 : w2.cell? ⟨p, 4, none⟩ = some (.int .i64 f.o.i) := HF2.out.cell 4
  have f5 : w2.cell? ⟨p, 5, none⟩ = some (.int .i64 f.o.n) := HF2.out.cell 5
  have f6 : w2.cell? ⟨p, 6, none⟩ = some (.bool f.a) := HF2.out.cell 6
  have x0 : w2.cell? ⟨w.heap.size, 0, none⟩ = some (.int .i64 o.u) := HX2.out.cell 0
  have x1 : w2.cell? ⟨w.heap.size, 1, none⟩ = some (.int .i64 o.e) := HX2.out.cell 1
  have x2 : w2.cell? ⟨w.heap.size, 2, none⟩ = some (.int .i64 o.k) := HX2.out.cell 2
  have x3 : w2.cell? ⟨w.heap.size, 3, none⟩ = some (.int .i64 o.i) := HX2.out.cell 3
  have x4 : w2.cell? ⟨w.heap.size, 4, none⟩ = some (.int .i64 o.n) := HX2.out.cell 4
  rw [HA.out] at f6
  have kf0 := cell_regrown f0
  have kf1 := cell_regrown f1
  have kf2 := cell_regrown f2
  have kf3 := cell_regrown f3
  have kf4 := cell_regrown f4
  have kf5 := cell_regrown f5
  have kf6 := cell_regrown f6
  have kx0 := cell_regrown x0
  have kx1 := cell_regrown x1
  have kx2 := cell_regrown x2
  have kx3 := cell_regrown x3
  have kx4 := cell_regrown x4
  refine wp_region_qb (by kernel_rfl) (by kernel_rfl) ?_
  repeat (first | go_big_quiet_step (fail) | quiet_step (fail))
  refine wpQuiet_nil ?_
  intro w3 hb3
  have HF3 := Lib.hid (Blk.low HF2.out hb3)
  have HX3 := Lib.hid (Blk.low HX2.out hb3)
  have HB3 := Lib.hid (HB2.out.trans (hb3.mono HB2.out.size))
  clear hb3 f0 f1 f2 f3 f4 f5 f6 x0 x1 x2 x3 x4 kf0 kf1 kf2 kf3 kf4 kf5 kf6 kx0 kx1 kx2 kx3 kx4
  have f0 : w3.cell? ⟨p, 0, none⟩ = some (.int .i64 f.u) := HF3.out.cell 0
  have f1 : w3.cell? ⟨p, 1, none⟩ = some (.int .i64 f.o.u) := HF3.out.cell 1
  have f2 : w3.cell? ⟨p, 2, none⟩ = some (.int .i64 f.o.e) := HF3.out.cell 2
  have f3 : w3.cell? ⟨p, 3, none⟩ = some (.int .i64 f.o.k) := HF3.out.cell 3
  have f4 : w3.cell? ⟨p, 4, none⟩ = some (.int .i64 f.o.i) := HF3.out.cell 4
  have f5 : w3.cell? ⟨p, 5, none⟩ = some (.int .i64 f.o.n) := HF3.out.cell 5
  have f6 : w3.cell? ⟨p, 6, none⟩ = some (.bool f.a) := HF3.out.cell 6
  have x0 : w3.cell? ⟨w.heap.size, 0, none⟩ = some (.int .i64 o.u) := HX3.out.cell 0
  have x1 : w3.cell? ⟨w.heap.size, 1, none⟩ = some (.int .i64 o.e) := HX3.out.cell 1
  have x2 : w3.cell? ⟨w.heap.size, 2, none⟩ = some (.int .i64 o.k) := HX3.out.cell 2
  have x3 : w3.cell? ⟨w.heap.size, 3, none⟩ = some (.int .i64 o.i) := HX3.out.cell 3
  have x4 : w3.cell? ⟨w.heap.size, 4, none⟩ = some (.int .i64 o.n) := HX3.out.cell 4
  have z0 := HF3.out.frozen 0
  have z1 := HF3.out.frozen 1
  have z2 := HF3.out.frozen 2
  have z3 := HF3.out.frozen 3
  have z4 := HF3.out.frozen 4
  have z5 := HF3.out.frozen 5
  have z6 := HF3.out.frozen 6
  go_wp2
  go_ret2
  rw [HE.out.1, HE.out.2.1, HE.out.2.2]
  refine ⟨rfl, ?_, ?_⟩
  · exact (((((HF3.out.set_ 1 (.int .i64 o.u)).set_ 2 (.int .i64 o.e)).set_ 3 (.int .i64 o.k)).set_ 4 (.int .i64 o.i)).set_ 5 (.int .i64 o.n)).set_ 6 (.bool true)
  · exact ((((((Chg.of_below HB3.out (· = p)).trans (Chg.setCell w3 ⟨p, 1, none⟩ (.int .i64 o.u)) (fun _ _ h => h)).trans (Chg.setCell _ ⟨p, 2, none⟩ (.int .i64 o.e)) (fun _ _ h => h)).trans (Chg.setCell _ ⟨p, 3, none⟩ (.int .i64 o.k)) (fun _ _ h => h)).trans (Chg.setCell _ ⟨p, 4, none⟩ (.int .i64 o.i)) (fun _ _ h => h)).trans (Chg.setCell _ ⟨p, 5, none⟩ (.int .i64 o.n)) (fun _ _ h => h)).trans (Chg.setCell _ ⟨p, 6, none⟩ (.bool true)) (fun _ _ h => h)

theorem accept_any (p : Nat) (f : Or.F) (o : Or.O) (w : World) (h : FenceAt w p f) :
    Calls Try.prog 12 #[.pointer (some ⟨p, 0, none⟩), .agg #[.int .i64 o.u, .int .i64 o.e, .int .i64 o.k, .int .i64 o.i, .int .i64 o.n]] w fun e w' => e = .returned (.tuple #[.bool (Or.accB f o), .int .i64 (Or.accE f o)]) ∧ FenceAt w' p (Or.acc f o) ∧ Chg (· = p) w w' := by
  cases hv : Or.valid o with
  | false => exact accept_invalid p f o w h hv
  | true =>
    cases hq : (o.u != f.u) with
    | true => exact accept_other p f o w h hv hq
    | false =>
      cases ha : f.a with
      | false => exact accept_first p f o w h hv hq ha
      | true =>
        by_cases he : o.e ≤ f.o.e
        · exact accept_stale p f o w h hv hq ha he
        · exact accept_newer p f o w h hv hq ha he
end Go.Proofs.Ytikbenngbaicoaa
