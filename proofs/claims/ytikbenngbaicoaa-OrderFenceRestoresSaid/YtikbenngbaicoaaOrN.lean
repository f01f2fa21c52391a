/- Layer 28: OrderDecodes and OrderRoundTrips walked. -/
import Derived.Test.YtikbenngbaicoaaOrM
namespace Go.Proofs.Ytikbenngbaicoaa
set_option linter.unusedSimpArgs false
set_option linter.unusedVariables false
open Go.RowKit

set_option maxRecDepth 100000 in
set_option maxHeartbeats 1000000 in
theorem decodes_walk (A : Option Addr) (l : List Int) (c : Nat) (w : World) (hr : Rd w A (l.map (.int .u8))) (hb : Wr.Bts l) (hm : l.length ≤ maxLen) :
    Calls Try.prog 5 #[.slice A l.length c] w fun e w' => e = .returned (.bool true) ∧ Below w.heap.size w w' := by
  unfold maxLen at hm
  have HR := Lib.hid hr
  have HBT := Lib.hid hb
  clear hr hb
  by_cases hl : l.length ≤ 200
  · obtain ⟨o, ho⟩ : ∃ o, Or.decO l = o := ⟨_, rfl⟩
    obtain ⟨s, hs⟩ : ∃ s, Or.decS l = s := ⟨_, rfl⟩
    obtain ⟨eo, heo⟩ : ∃ e, Or.decE (Or.okO l) = e := ⟨_, rfl⟩
    obtain ⟨es, hes⟩ : ∃ e, Or.decE (Or.okS l) = e := ⟨_, rfl⟩
    have HO := Lib.hid ho
    have HS := Lib.hid hs
    have HEO := Lib.hid heo
    have HES := Lib.hid hes
    clear ho hs heo hes
    go_enter Try.func5, Try.ntmps5
    go_wp2_with fail
    refine (alive_any _).mono ?_
    rintro e w0 ⟨rfl, hb⟩
    have HB0 := Lib.hid hb
    have HR0 := Lib.hid (HR.out.low hb)
    clear hb
    go_wp2_with fail
    refine (decodeOrder_any A l c _ HR0.out HBT.out (by omega)).mono ?_
    rw [HO.out, HEO.out]
    rintro e v1 ⟨rfl, hb⟩
    have hb2 := (HB0.out.trans (hb.mono HB0.out.size))
    have hR2 := (HR0.out.low hb).alloc (.cells #[.int .i64 o.u, .int .i64 o.e, .int .i64 o.k, .int .i64 o.i, .int .i64 o.n] 29)
    have hb3 := hb2.alloc hb2.size (.cells #[.int .i64 o.u, .int .i64 o.e, .int .i64 o.k, .int .i64 o.i, .int .i64 o.n] 29)
    obtain ⟨b1, hbk⟩ : ∃ b, v1.heap.size = b := ⟨_, rfl⟩
    have HX1 := Lib.hid (Blk.new' v1 29 #[.int .i64 o.u, .int .i64 o.e, .int .i64 o.k, .int .i64 o.i, .int .i64 o.n] b1 hbk)
    clear hb
    go_wp2_with fail
    obtain ⟨w1, hw1⟩ : ∃ w', v1.alloc (.cells #[.int .i64 o.u, .int .i64 o.e, .int .i64 o.k, .int .i64 o.i, .int .i64 o.n] 29) = w' := ⟨_, rfl⟩
    rw [hw1] at HX1 hb3 hR2 ⊢
    have HB1 := Lib.hid hb3
    have HR1 := Lib.hid hR2
    clear hb2 hb3 hR2 hw1 hbk
    refine (rread_any A l c _ HR1.out HBT.out (by omega)).mono ?_
    rw [HO.out, HEO.out]
    rintro e v2 ⟨rfl, hb⟩
    have HX1 := Lib.hid ((HX1.out.low hb).alloc (.cells #[.int .i64 o.u, .int .i64 o.e, .int .i64 o.k, .int .i64 o.i, .int .i64 o.n] 29))
    have hb2 := (HB1.out.trans (hb.mono HB1.out.size))
    have hR2 := (HR1.out.low hb).alloc (.cells #[.int .i64 o.u, .int .i64 o.e, .int .i64 o.k, .int .i64 o.i, .int .i64 o.n] 29)
    have hb3 := hb2.alloc hb2.size (.cells #[.int .i64 o.u, .int .i64 o.e, .int .i64 o.k, .int .i64 o.i, .int .i64 o.n] 29)
    obtain ⟨b2, hbk⟩ : ∃ b, v2.heap.size = b := ⟨_, rfl⟩
    have HX2 := Lib.hid (Blk.new' v2 29 #[.int .i64 o.u, .int .i64 o.e, .int .i64 o.k, .int .i64 o.i, .int .i64 o.n] b2 hbk)
    clear hb
    go_wp2_with fail
    obtain ⟨w2, hw2⟩ : ∃ w', v2.alloc (.cells #[.int .i64 o.u, .int .i64 o.e, .int .i64 o.k, .int .i64 o.i, .int .i64 o.n] 29) = w' := ⟨_, rfl⟩
    rw [hw2] at HX1 HX2 hb3 hR2 ⊢
    have HB2 := Lib.hid hb3
    have HR2 := Lib.hid hR2
    clear hb2 hb3 hR2 hw2 hbk
    refine (decodeStatus_any A l c _ HR2.out HBT.out (by omega)).mono ?_
    rw [HS.out, HES.out]
    rintro e v3 ⟨rfl, hb⟩
    have HX1 := Lib.hid ((HX1.out.low hb).alloc (.cells #[.int .i64 s.u, .int .i64 s.q, .int .i64 s.s, .int .i64 s.n, .int .i64 s.e] 45))
    have HX2 := Lib.hid ((HX2.out.low hb).alloc (.cells #[.int .i64 s.u, .int .i64 s.q, .int .i64 s.s, .int .i64 s.n, .int .i64 s.e] 45))
    have hb2 := (HB2.out.trans (hb.mono HB2.out.size))
    have hR2 := (HR2.out.low hb).alloc (.cells #[.int .i64 s.u, .int .i64 s.q, .int .i64 s.s, .int .i64 s.n, .int .i64 s.e] 45)
    have hb3 := hb2.alloc hb2.size (.cells #[.int .i64 s.u, .int .i64 s.q, .int .i64 s.s, .int .i64 s.n, .int .i64 s.e] 45)
    obtain ⟨b3, hbk⟩ : ∃ b, v3.heap.size = b := ⟨_, rfl⟩
    have HX3 := Lib.hid (Blk.new' v3 45 #[.int .i64 s.u, .int .i64 s.q, .int .i64 s.s, .int .i64 s.n, .int .i64 s.e] b3 hbk)
    clear hb
    go_wp2_with fail
    obtain ⟨w3, hw3⟩ : ∃ w', v3.alloc (.cells #[.int .i64 s.u, .int .i64 s.q, .int .i64 s.s, .int .i64 s.n, .int .i64 s.e] 45) = w' := ⟨_, rfl⟩
    rw [hw3] at HX1 HX2 HX3 hb3 hR2 ⊢
    have HB3 := Lib.hid hb3
    have HR3 := Lib.hid hR2
    clear hb2 hb3 hR2 hw3 hbk
    refine (rhear_any A l c _ HR3.out HBT.out (by omega)).mono ?_
    rw [HS.out, HES.out]
    rintro e v4 ⟨rfl, hb⟩
    have HB4 := Lib.hid ((HB3.out.trans (hb.mono HB3.out.size)).alloc (HB3.out.trans (hb.mono HB3.out.size)).size (.cells #[.int .i64 s.u, .int .i64 s.q, .int .i64 s.s, .int .i64 s.n, .int .i64 s.e] 45))
    have hX1 := HX1.out.low hb
    have lt1 := hX1.lt
    have x10 : v4.cell? ⟨b1, 0, none⟩ = some (.int .i64 o.u) := hX1.cell 0
    have x11 : v4.cell? ⟨b1, 1, none⟩ = some (.int .i64 o.e) := hX1.cell 1
    have x12 : v4.cell? ⟨b1, 2, none⟩ = some (.int .i64 o.k) := hX1.cell 2
    have x13 : v4.cell? ⟨b1, 3, none⟩ = some (.int .i64 o.i) := hX1.cell 3
    have x14 : v4.cell? ⟨b1, 4, none⟩ = some (.int .i64 o.n) := hX1.cell 4
    clear hX1
    have hX2 := HX2.out.low hb
    have lt2 := hX2.lt
    have x20 : v4.cell? ⟨b2, 0, none⟩ = some (.int .i64 o.u) := hX2.cell 0
    have x21 : v4.cell? ⟨b2, 1, none⟩ = some (.int .i64 o.e) := hX2.cell 1
    have x22 : v4.cell? ⟨b2, 2, none⟩ = some (.int .i64 o.k) := hX2.cell 2
    have x23 : v4.cell? ⟨b2, 3, none⟩ = some (.int .i64 o.i) := hX2.cell 3
    have x24 : v4.cell? ⟨b2, 4, none⟩ = some (.int .i64 o.n) := hX2.cell 4
    clear hX2
    have hX3 := HX3.out.low hb
    have lt3 := hX3.lt
    have x30 : v4.cell? ⟨b3, 0, none⟩ = some (.int .i64 s.u) := hX3.cell 0
    have x31 : v4.cell? ⟨b3, 1, none⟩ = some (.int .i64 s.q) := hX3.cell 1
    have x32 : v4.cell? ⟨b3, 2, none⟩ = some (.int .i64 s.s) := hX3.cell 2
    have x33 : v4.cell? ⟨b3, 3, none⟩ = some (.int .i64 s.n) := hX3.cell 3
    have x34 : v4.cell? ⟨b3, 4, none⟩ = some (.int .i64 s.e) := hX3.cell 4
    clear hX3
    clear hb
    go_wp2
    go_ret
    exact ⟨ret_bool (by simp), HB4.out⟩
  · go_enter Try.func5, Try.ntmps5
    go_wp2_with (go_at_call 9; refine (alive_any _).mono ?_; rintro e w0 ⟨rfl, hb⟩; have HB0 := Lib.hid hb; clear hb)
    go_ret
    exact ⟨rfl, HB0.out⟩
end Go.Proofs.Ytikbenngbaicoaa
