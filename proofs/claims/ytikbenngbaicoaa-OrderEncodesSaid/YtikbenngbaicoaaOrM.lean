/- Layer 28: OrderEncodes walked. -/
import Derived.Test.YtikbenngbaicoaaOrL
import Derived.Deep.RegionHeldLaw
import Derived.Deep.DrawnRows
namespace Go.Proofs.Ytikbenngbaicoaa
set_option linter.unusedSimpArgs false
set_option linter.unusedVariables false
open Go.RowKit

attribute [local go_sem ↓] Go.wp_at_zero Go.wp_at_succ

theorem strU8 (W : World) (A : Option Addr) (l : List Int) (n c : Nat) (hr : Rd W A (l.map (Value.int .u8))) (hn : l.length = n) : (convert 40 9 (.slice A n c)).run Try.prog W = .ok (.string (bstr l)) W :=
  run_str W _ _ 5 A l n c Try.underlying40 Try.underlying5 Try.underlying9 hr hn

set_option maxRecDepth 100000 in
set_option maxHeartbeats 2000000 in
theorem encodes_walk (o : Or.O) (s : Or.S) (w : World) (ho : Or.O64 o) (hs : Or.S64 s) :
    Calls Try.prog 4 #[.agg #[.int .i64 o.u, .int .i64 o.e, .int .i64 o.k, .int .i64 o.i, .int .i64 o.n], .agg #[.int .i64 s.u, .int .i64 s.q, .int .i64 s.s, .int .i64 s.n, .int .i64 s.e]] w fun e w' => e = .returned (.bool true) ∧ Below w.heap.size w w' := by
  have HO := Lib.hid ho
  have HS64 := Lib.hid hs
  have HX := Lib.hid ((Blk.new w 29 #[.int .i64 o.u, .int .i64 o.e, .int .i64 o.k, .int .i64 o.i, .int .i64 o.n]).alloc (.cells #[.int .i64 s.u, .int .i64 s.q, .int .i64 s.s, .int .i64 s.n, .int .i64 s.e] 45))
  have HY := Lib.hid (Blk.new' (w.alloc (.cells #[.int .i64 o.u, .int .i64 o.e, .int .i64 o.k, .int .i64 o.i, .int .i64 o.n] 29)) 45 #[.int .i64 s.u, .int .i64 s.q, .int .i64 s.s, .int .i64 s.n, .int .i64 s.e] (w.heap.size + 1) (by simp))
  have hal := (Below.refl w.heap.size w).alloc (Nat.le_refl _) (.cells #[.int .i64 o.u, .int .i64 o.e, .int .i64 o.k, .int .i64 o.i, .int .i64 o.n] 29)
  have HB := Lib.hid (hal.alloc hal.size (.cells #[.int .i64 s.u, .int .i64 s.q, .int .i64 s.s, .int .i64 s.n, .int .i64 s.e] 45))
  clear ho hs hal
  go_enter Try.func4, Try.ntmps4
  go_wp2_with fail
  refine (alive_any _).mono ?_
  rintro e w0 ⟨rfl, hb⟩
  have HX0 := Lib.hid (Blk.drew (HX.out.low hb))
  have HY0 := Lib.hid (Blk.drew (HY.out.low hb))
  have HB0 := Lib.hid ((HB.out.trans (hb.mono HB.out.size)).drew)
  have x0 : w0.cell? ⟨w.heap.size, 0, none⟩ = some (.int .i64 o.u) := HX0.out.cell 0
  have x1 : w0.cell? ⟨w.heap.size, 1, none⟩ = some (.int .i64 o.e) := HX0.out.cell 1
  have x2 : w0.cell? ⟨w.heap.size, 2, none⟩ = some (.int .i64 o.k) := HX0.out.cell 2
  have x3 : w0.cell? ⟨w.heap.size, 3, none⟩ = some (.int .i64 o.i) := HX0.out.cell 3
  have x4 : w0.cell? ⟨w.heap.size, 4, none⟩ = some (.int .i64 o.n) := HX0.out.cell 4
  have y0 : w0.cell? ⟨w.heap.size + 1, 0, none⟩ = some (.int .i64 s.u) := HY0.out.cell 0
  have y1 : w0.cell? ⟨w.heap.size + 1, 1, none⟩ = some (.int .i64 s.q) := HY0.out.cell 1
  have y2 : w0.cell? ⟨w.heap.size + 1, 2, none⟩ = some (.int .i64 s.s) := HY0.out.cell 2
  have y3 : w0.cell? ⟨w.heap.size + 1, 3, none⟩ = some (.int .i64 s.n) := HY0.out.cell 3
  have y4 : w0.cell? ⟨w.heap.size + 1, 4, none⟩ = some (.int .i64 s.e) := HY0.out.cell 4
  clear hb
  go_wp2_with fail
  go_region_held_law (fun w' => (((w'.cell? ⟨w.heap.size, 0, none⟩ = some (.int .i64 o.u) ∧ w'.cell? ⟨w.heap.size, 1, none⟩ = some (.int .i64 o.e)) ∧ (w'.cell? ⟨w.heap.size, 2, none⟩ = some (.int .i64 o.k) ∧ (w'.cell? ⟨w.heap.size, 3, none⟩ = some (.int .i64 o.i) ∧ w'.cell? ⟨w.heap.size, 4, none⟩ = some (.int .i64 o.n)))) ∧ ((w'.cell? ⟨w.heap.size + 1, 0, none⟩ = some (.int .i64 s.u) ∧ w'.cell? ⟨w.heap.size + 1, 1, none⟩ = some (.int .i64 s.q)) ∧ (w'.cell? ⟨w.heap.size + 1, 2, none⟩ = some (.int .i64 s.s) ∧ (w'.cell? ⟨w.heap.size + 1, 3, none⟩ = some (.int .i64 s.n) ∧ w'.cell? ⟨w.heap.size + 1, 4, none⟩ = some (.int .i64 s.e))))))
    (first | with_reducible exact HSf | with_reducible exact HSe | with_reducible exact HSd | with_reducible exact HSc | with_reducible exact HSb | with_reducible exact HSa | go_keep)
    (first
      | (go_at_call 17; refine (encodeOrder_any o _ HO.out).mono ?_; rintro e wa ⟨Aa, ca, rfl, hown, hb⟩
         have hX := Blk.low HX0.out hb
         have hY := Blk.low HY0.out hb
         have HSa : (((wa.cell? ⟨w.heap.size, 0, none⟩ = some (.int .i64 o.u) ∧ wa.cell? ⟨w.heap.size, 1, none⟩ = some (.int .i64 o.e)) ∧ (wa.cell? ⟨w.heap.size, 2, none⟩ = some (.int .i64 o.k) ∧ (wa.cell? ⟨w.heap.size, 3, none⟩ = some (.int .i64 o.i) ∧ wa.cell? ⟨w.heap.size, 4, none⟩ = some (.int .i64 o.n)))) ∧ ((wa.cell? ⟨w.heap.size + 1, 0, none⟩ = some (.int .i64 s.u) ∧ wa.cell? ⟨w.heap.size + 1, 1, none⟩ = some (.int .i64 s.q)) ∧ (wa.cell? ⟨w.heap.size + 1, 2, none⟩ = some (.int .i64 s.s) ∧ (wa.cell? ⟨w.heap.size + 1, 3, none⟩ = some (.int .i64 s.n) ∧ wa.cell? ⟨w.heap.size + 1, 4, none⟩ = some (.int .i64 s.e))))) := ⟨⟨⟨hX.cell 0, hX.cell 1⟩, ⟨hX.cell 2, ⟨hX.cell 3, hX.cell 4⟩⟩⟩, ⟨⟨hY.cell 0, hY.cell 1⟩, ⟨hY.cell 2, ⟨hY.cell 3, hY.cell 4⟩⟩⟩⟩
         have HXa := Lib.hid hX
         have HYa := Lib.hid hY
         have HBa := Lib.hid (HB0.out.trans (hb.mono HB0.out.size))
         have HOa := Lib.hid hown
         have sa := strU8 wa Aa (Or.put o) _ ca (Rd.of_own hown) rfl
         clear hX hY hb hown)
      | (go_at_call 18; refine (rput_any o _ HO.out).mono ?_; rintro e wb ⟨Ab, cb, rfl, hown, hb⟩
         have hX := Blk.low HXa.out hb
         have hY := Blk.low HYa.out hb
         have HSb : (((wb.cell? ⟨w.heap.size, 0, none⟩ = some (.int .i64 o.u) ∧ wb.cell? ⟨w.heap.size, 1, none⟩ = some (.int .i64 o.e)) ∧ (wb.cell? ⟨w.heap.size, 2, none⟩ = some (.int .i64 o.k) ∧ (wb.cell? ⟨w.heap.size, 3, none⟩ = some (.int .i64 o.i) ∧ wb.cell? ⟨w.heap.size, 4, none⟩ = some (.int .i64 o.n)))) ∧ ((wb.cell? ⟨w.heap.size + 1, 0, none⟩ = some (.int .i64 s.u) ∧ wb.cell? ⟨w.heap.size + 1, 1, none⟩ = some (.int .i64 s.q)) ∧ (wb.cell? ⟨w.heap.size + 1, 2, none⟩ = some (.int .i64 s.s) ∧ (wb.cell? ⟨w.heap.size + 1, 3, none⟩ = some (.int .i64 s.n) ∧ wb.cell? ⟨w.heap.size + 1, 4, none⟩ = some (.int .i64 s.e))))) := ⟨⟨⟨hX.cell 0, hX.cell 1⟩, ⟨hX.cell 2, ⟨hX.cell 3, hX.cell 4⟩⟩⟩, ⟨⟨hY.cell 0, hY.cell 1⟩, ⟨hY.cell 2, ⟨hY.cell 3, hY.cell 4⟩⟩⟩⟩
         have HXb := Lib.hid hX
         have HYb := Lib.hid hY
         have HBb := Lib.hid (HBa.out.trans (hb.mono HBa.out.size))
         have HOab := Lib.hid (HOa.out.low hb)
         have sab := strU8 wb Aa (Or.put o) _ ca (Rd.of_own HOab.out) rfl
         have HOb := Lib.hid hown
         have sb := strU8 wb Ab (Or.put o) _ cb (Rd.of_own hown) rfl
         clear hX hY hb hown)
      | (go_at_call 19; refine (encodeStatus_any s _ HS64.out).mono ?_; rintro e wc ⟨Ac, cc, rfl, hown, hb⟩
         have hX := Blk.low HXb.out hb
         have hY := Blk.low HYb.out hb
         have HSc : (((wc.cell? ⟨w.heap.size, 0, none⟩ = some (.int .i64 o.u) ∧ wc.cell? ⟨w.heap.size, 1, none⟩ = some (.int .i64 o.e)) ∧ (wc.cell? ⟨w.heap.size, 2, none⟩ = some (.int .i64 o.k) ∧ (wc.cell? ⟨w.heap.size, 3, none⟩ = some (.int .i64 o.i) ∧ wc.cell? ⟨w.heap.size, 4, none⟩ = some (.int .i64 o.n)))) ∧ ((wc.cell? ⟨w.heap.size + 1, 0, none⟩ = some (.int .i64 s.u) ∧ wc.cell? ⟨w.heap.size + 1, 1, none⟩ = some (.int .i64 s.q)) ∧ (wc.cell? ⟨w.heap.size + 1, 2, none⟩ = some (.int .i64 s.s) ∧ (wc.cell? ⟨w.heap.size + 1, 3, none⟩ = some (.int .i64 s.n) ∧ wc.cell? ⟨w.heap.size + 1, 4, none⟩ = some (.int .i64 s.e))))) := ⟨⟨⟨hX.cell 0, hX.cell 1⟩, ⟨hX.cell 2, ⟨hX.cell 3, hX.cell 4⟩⟩⟩, ⟨⟨hY.cell 0, hY.cell 1⟩, ⟨hY.cell 2, ⟨hY.cell 3, hY.cell 4⟩⟩⟩⟩
         have HXc := Lib.hid hX
         have HYc := Lib.hid hY
         have HBc := Lib.hid (HBb.out.trans (hb.mono HBb.out.size))
         have HOc := Lib.hid hown
         have sc := strU8 wc Ac (Or.say s) _ cc (Rd.of_own hown) rfl
         clear hX hY hb hown)
      | (go_at_call 20; refine (rsay_any s _ HS64.out).mono ?_; rintro e wd ⟨Ad, cd, rfl, hown, hb⟩
         have hX := Blk.low HXc.out hb
         have hY := Blk.low HYc.out hb
         have HSd : (((wd.cell? ⟨w.heap.size, 0, none⟩ = some (.int .i64 o.u) ∧ wd.cell? ⟨w.heap.size, 1, none⟩ = some (.int .i64 o.e)) ∧ (wd.cell? ⟨w.heap.size, 2, none⟩ = some (.int .i64 o.k) ∧ (wd.cell? ⟨w.heap.size, 3, none⟩ = some (.int .i64 o.i) ∧ wd.cell? ⟨w.heap.size, 4, none⟩ = some (.int .i64 o.n)))) ∧ ((wd.cell? ⟨w.heap.size + 1, 0, none⟩ = some (.int .i64 s.u) ∧ wd.cell? ⟨w.heap.size + 1, 1, none⟩ = some (.int .i64 s.q)) ∧ (wd.cell? ⟨w.heap.size + 1, 2, none⟩ = some (.int .i64 s.s) ∧ (wd.cell? ⟨w.heap.size + 1, 3, none⟩ = some (.int .i64 s.n) ∧ wd.cell? ⟨w.heap.size + 1, 4, none⟩ = some (.int .i64 s.e))))) := ⟨⟨⟨hX.cell 0, hX.cell 1⟩, ⟨hX.cell 2, ⟨hX.cell 3, hX.cell 4⟩⟩⟩, ⟨⟨hY.cell 0, hY.cell 1⟩, ⟨hY.cell 2, ⟨hY.cell 3, hY.cell 4⟩⟩⟩⟩
         have HXd := Lib.hid hX
         have HYd := Lib.hid hY
         have HBd := Lib.hid (HBc.out.trans (hb.mono HBc.out.size))
         have HOcd := Lib.hid (HOc.out.low hb)
         have scd := strU8 wd Ac (Or.say s) _ cc (Rd.of_own HOcd.out) rfl
         have HOd := Lib.hid hown
         have sd := strU8 wd Ad (Or.say s) _ cd (Rd.of_own hown) rfl
         clear hX hY hb hown)
      | (go_at_call 21; refine (valid_any o _).mono ?_; rintro e we ⟨rfl, hb⟩
         have hX := Blk.low HXd.out hb
         have hY := Blk.low HYd.out hb
         have HSe : (((we.cell? ⟨w.heap.size, 0, none⟩ = some (.int .i64 o.u) ∧ we.cell? ⟨w.heap.size, 1, none⟩ = some (.int .i64 o.e)) ∧ (we.cell? ⟨w.heap.size, 2, none⟩ = some (.int .i64 o.k) ∧ (we.cell? ⟨w.heap.size, 3, none⟩ = some (.int .i64 o.i) ∧ we.cell? ⟨w.heap.size, 4, none⟩ = some (.int .i64 o.n)))) ∧ ((we.cell? ⟨w.heap.size + 1, 0, none⟩ = some (.int .i64 s.u) ∧ we.cell? ⟨w.heap.size + 1, 1, none⟩ = some (.int .i64 s.q)) ∧ (we.cell? ⟨w.heap.size + 1, 2, none⟩ = some (.int .i64 s.s) ∧ (we.cell? ⟨w.heap.size + 1, 3, none⟩ = some (.int .i64 s.n) ∧ we.cell? ⟨w.heap.size + 1, 4, none⟩ = some (.int .i64 s.e))))) := ⟨⟨⟨hX.cell 0, hX.cell 1⟩, ⟨hX.cell 2, ⟨hX.cell 3, hX.cell 4⟩⟩⟩, ⟨⟨hY.cell 0, hY.cell 1⟩, ⟨hY.cell 2, ⟨hY.cell 3, hY.cell 4⟩⟩⟩⟩
         have HXe := Lib.hid hX
         have HYe := Lib.hid hY
         have HBe := Lib.hid (HBd.out.trans (hb.mono HBd.out.size))
         clear hX hY hb)
      | (go_at_call 22; refine (right_any o _).mono ?_; rintro e wf ⟨rfl, hb⟩
         have hX := Blk.low HXe.out hb
         have hY := Blk.low HYe.out hb
         have HSf : (((wf.cell? ⟨w.heap.size, 0, none⟩ = some (.int .i64 o.u) ∧ wf.cell? ⟨w.heap.size, 1, none⟩ = some (.int .i64 o.e)) ∧ (wf.cell? ⟨w.heap.size, 2, none⟩ = some (.int .i64 o.k) ∧ (wf.cell? ⟨w.heap.size, 3, none⟩ = some (.int .i64 o.i) ∧ wf.cell? ⟨w.heap.size, 4, none⟩ = some (.int .i64 o.n)))) ∧ ((wf.cell? ⟨w.heap.size + 1, 0, none⟩ = some (.int .i64 s.u) ∧ wf.cell? ⟨w.heap.size + 1, 1, none⟩ = some (.int .i64 s.q)) ∧ (wf.cell? ⟨w.heap.size + 1, 2, none⟩ = some (.int .i64 s.s) ∧ (wf.cell? ⟨w.heap.size + 1, 3, none⟩ = some (.int .i64 s.n) ∧ wf.cell? ⟨w.heap.size + 1, 4, none⟩ = some (.int .i64 s.e))))) := ⟨⟨⟨hX.cell 0, hX.cell 1⟩, ⟨hX.cell 2, ⟨hX.cell 3, hX.cell 4⟩⟩⟩, ⟨⟨hY.cell 0, hY.cell 1⟩, ⟨hY.cell 2, ⟨hY.cell 3, hY.cell 4⟩⟩⟩⟩
         have HXf := Lib.hid hX
         have HYf := Lib.hid hY
         have HBf := Lib.hid (HBe.out.trans (hb.mono HBe.out.size))
         clear hX hY hb))
  all_goals
    go_wp2
    go_ret
    exact ⟨ret_bool (by simp), HBf.out⟩
end Go.Proofs.Ytikbenngbaicoaa
