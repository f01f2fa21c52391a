/- Layer 28: the walks of the laws. -/
import Derived.Test.YtikbenngbaicoaaOrU
namespace Go.Proofs.Ytikbenngbaicoaa
set_option linter.unusedSimpArgs false
set_option linter.unusedVariables false
open Go.RowKit

namespace Or
def go (e : Int) : O := ⟨1, e, 1, 4, 2⟩
end Or
set_option maxRecDepth 100000 in
theorem going_any (n : Int) (w : World) :
    Calls Try.prog 28 #[.int .i64 n] w fun e w' => e = .returned (.agg #[.int .i64 1, .int .i64 n, .int .i64 1, .int .i64 4, .int .i64 2]) ∧ Below w.heap.size w w' := by
  go_enter Try.func28, Try.ntmps28
  go_wp2
  exact bodyPost_ret (v := .agg #[.int .i64 1, .int .i64 n, .int .i64 1, .int .i64 4, .int .i64 2]) (by simp [results, Try.results28, go_sem]) rfl ⟨rfl, (Below.refl _ _).alloc (Nat.le_refl _) _⟩
namespace Or
def al0 : F := new 1
def al1 : F := acc al0 (go 5)
def al2 : F := acc al1 (go 3)
def al3 : F := acc al2 (go 5)
def al4 : F := acc al3 (go 7)
theorem al_b : accB al0 (go 5) = true ∧ accB al1 (go 3) = false ∧ accB al2 (go 5) = false ∧ accB al3 (go 7) = true := by decide +kernel
theorem al_e : accE al0 (go 5) = 0 ∧ accE al1 (go 3) = 0 ∧ accE al2 (go 5) = 0 ∧ accE al3 (go 7) = 0 := by decide +kernel
theorem al_4 : al4.o.u = 1 ∧ al4.o.e = 7 ∧ al4.o.k = 1 ∧ al4.o.i = 4 ∧ al4.o.n = 2 ∧ al4.a = true := by decide +kernel
theorem al_v : valid (go 1) = true := by decide +kernel
end Or

set_option maxRecDepth 100000 in
set_option maxHeartbeats 1000000 in
theorem alive_any (w : World) : Calls Try.prog 9 #[] w fun e w' => e = .returned (.bool true) ∧ Below w.heap.size w w' := by
  go_enter Try.func9, Try.ntmps9
  go_wp2_with fail
  refine (newFence_ok 1 _ (by decide +kernel)).mono ?_
  rintro e w0 ⟨rfl, hf, hb⟩
  have HF0 := Lib.hid (show FenceAt w0 w.heap.size Or.al0 from hf)
  have HB0 := Lib.hid hb
  clear hf hb
  go_wp2_with fail
  refine (going_any 5 _).mono ?_
  rintro e g0 ⟨rfl, hb⟩
  have HG0 := Lib.hid (HF0.out.low hb)
  have HC0 := Lib.hid (HB0.out.trans (hb.mono HB0.out.size))
  clear hb
  go_wp2_with fail
  refine (accept_any _ Or.al0 (Or.go 5) _ HG0.out).mono ?_
  rw [Or.al_b.1, Or.al_e.1]
  rintro e w1 ⟨rfl, hf, hb⟩
  have HF1 := Lib.hid (show FenceAt w1 w.heap.size Or.al1 from hf)
  have HB1 := Lib.hid (HC0.out.trans (hb.below (B := w.heap.size) (fun k e => by omega) HC0.out.size))
  clear hf hb
  go_wp2_with fail
  refine (going_any 3 _).mono ?_
  rintro e g1 ⟨rfl, hb⟩
  have HG1 := Lib.hid (HF1.out.low hb)
  have HC1 := Lib.hid (HB1.out.trans (hb.mono HB1.out.size))
  clear hb
  go_wp2_with fail
  refine (accept_any _ Or.al1 (Or.go 3) _ HG1.out).mono ?_
  rw [Or.al_b.2.1, Or.al_e.2.1]
  rintro e w2 ⟨rfl, hf, hb⟩
  have HF2 := Lib.hid (show FenceAt w2 w.heap.size Or.al2 from hf)
  have HB2 := Lib.hid (HC1.out.trans (hb.below (B := w.heap.size) (fun k e => by omega) HC1.out.size))
  clear hf hb
  go_wp2_with fail
  refine (going_any 5 _).mono ?_
  rintro e g2 ⟨rfl, hb⟩
  have HG2 := Lib.hid (HF2.out.low hb)
  have HC2 := Lib.hid (HB2.out.trans (hb.mono HB2.out.size))
  clear hb
  go_wp2_with fail
  refine (accept_any _ Or.al2 (Or.go 5) _ HG2.out).mono ?_
  rw [Or.al_b.2.2.1, Or.al_e.2.2.1]
  rintro e w3 ⟨rfl, hf, hb⟩
  have HF3 := Lib.hid (show FenceAt w3 w.heap.size Or.al3 from hf)
  have HB3 := Lib.hid (HC2.out.trans (hb.below (B := w.heap.size) (fun k e => by omega) HC2.out.size))
  clear hf hb
  go_wp2_with fail
  refine (going_any 7 _).mono ?_
  rintro e g3 ⟨rfl, hb⟩
  have HG3 := Lib.hid (HF3.out.low hb)
  have HC3 := Lib.hid (HB3.out.trans (hb.mono HB3.out.size))
  clear hb
  go_wp2_with fail
  refine (accept_any _ Or.al3 (Or.go 7) _ HG3.out).mono ?_
  rw [Or.al_b.2.2.2, Or.al_e.2.2.2]
  rintro e w4 ⟨rfl, hf, hb⟩
  have HF4 := Lib.hid (show FenceAt w4 w.heap.size Or.al4 from hf)
  have HB4 := Lib.hid (HC3.out.trans (hb.below (B := w.heap.size) (fun k e => by omega) HC3.out.size))
  clear hf hb
  go_wp2_with fail
  refine (latest_any _ Or.al4 _ HF4.out).mono ?_
  rw [Or.al_4.1, Or.al_4.2.1, Or.al_4.2.2.1, Or.al_4.2.2.2.1, Or.al_4.2.2.2.2.1, Or.al_4.2.2.2.2.2]
  rintro e w5 ⟨rfl, hb⟩
  have HB5 := Lib.hid (HB4.out.trans (hb.mono HB4.out.size))
  clear hb
  go_wp2_with fail
  have HB6 := Lib.hid (HB5.out.alloc HB5.out.size (.cells #[.int .i64 1, .int .i64 7, .int .i64 1, .int .i64 4, .int .i64 2] 29))
  have hX := Blk.new w5 29 #[.int .i64 1, .int .i64 7, .int .i64 1, .int .i64 4, .int .i64 2]
  obtain ⟨b, hbk⟩ : ∃ b, w5.heap.size = b := ⟨_, rfl⟩
  obtain ⟨w6, hw6⟩ : ∃ w6, w5.alloc (.cells #[.int .i64 1, .int .i64 7, .int .i64 1, .int .i64 4, .int .i64 2] 29) = w6 := ⟨_, rfl⟩
  rw [hw6] at hX HB6 ⊢
  rw [hbk] at hX ⊢
  have k0 := cell_regrown (show w6.cell? ⟨b, 0, none⟩ = some (.int .i64 1) from hX.cell 0)
  have k1 := cell_regrown (show w6.cell? ⟨b, 1, none⟩ = some (.int .i64 7) from hX.cell 1)
  have k2 := cell_regrown (show w6.cell? ⟨b, 2, none⟩ = some (.int .i64 1) from hX.cell 2)
  have k3 := cell_regrown (show w6.cell? ⟨b, 3, none⟩ = some (.int .i64 4) from hX.cell 3)
  have k4 := cell_regrown (show w6.cell? ⟨b, 4, none⟩ = some (.int .i64 2) from hX.cell 4)
  have cG7 := calls_qb (w := w6) (fun w' _ => going_any 7 w')
  have cG1 := calls_qb (w := w6) (fun w' _ => going_any 1 w')
  have cV := calls_qb (P := Try.prog) (f := 21) (args := #[.agg #[.int .i64 1, .int .i64 1, .int .i64 1, .int .i64 4, .int .i64 2]]) (w := w6) (v := .bool true) (fun w' _ => (valid_any (Or.go 1) w').mono (by rw [Or.al_v]; exact fun _ _ h => h))
  clear hX hw6 hbk
  refine wp_region_qb (by kernel_rfl) (by kernel_rfl) ?_
  repeat (first | go_big_quiet_step (first | exact cG7 _ _ | exact cG1 _ _ | exact cV _ _) | quiet_step (first | exact cG7 _ _ | exact cG1 _ _ | exact cV _ _))
  refine wpQuiet_nil ?_
  intro w7 hb7
  have HB7 := Lib.hid (HB6.out.trans (hb7.mono HB6.out.size))
  clear hb7
  go_wp2
  go_ret
  exact ⟨rfl, HB7.out⟩
end Go.Proofs.Ytikbenngbaicoaa
