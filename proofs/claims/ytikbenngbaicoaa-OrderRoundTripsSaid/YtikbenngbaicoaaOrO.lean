/- Layer 28: OrderRoundTrips walked. -/
import Derived.Test.YtikbenngbaicoaaOrN
namespace Go.Proofs.Ytikbenngbaicoaa
set_option linter.unusedSimpArgs false
set_option linter.unusedVariables false
open Go.RowKit

namespace Wr
theorem rs_one {n : Int} (h : I64 n) (l r : List Int) (k : Nat) (hk : rs k ⟨l, 0⟩ = ⟨enc n ++ r, 0⟩) : rdV (rs k ⟨l, 0⟩) = n ∧ rs (k + 1) ⟨l, 0⟩ = ⟨r, 0⟩ := by
  have := rd_enc h r
  exact ⟨by rw [hk]; exact this.2, by show rd (rs k ⟨l, 0⟩) = _; rw [hk]; exact this.1⟩
theorem rs_five {a b c d e : Int} (ha : I64 a) (hb : I64 b) (hc : I64 c) (hd : I64 d) (he : I64 e) (l : List Int) (hl : l = encs [a, b, c, d, e]) :
    rdV (rs 0 ⟨l, 0⟩) = a ∧ rdV (rs 1 ⟨l, 0⟩) = b ∧ rdV (rs 2 ⟨l, 0⟩) = c ∧ rdV (rs 3 ⟨l, 0⟩) = d ∧ rdV (rs 4 ⟨l, 0⟩) = e ∧ fin (rs 5 ⟨l, 0⟩) = 0 := by
  have e0 : rs 0 ⟨l, 0⟩ = ⟨enc a ++ (enc b ++ (enc c ++ (enc d ++ (enc e ++ [])))), 0⟩ := by rw [hl]; simp [rs, encs]
  obtain ⟨h0, e1⟩ := rs_one ha l _ 0 e0
  obtain ⟨h1, e2⟩ := rs_one hb l _ 1 e1
  obtain ⟨h2, e3⟩ := rs_one hc l _ 2 e2
  obtain ⟨h3, e4⟩ := rs_one hd l _ 3 e3
  obtain ⟨h4, e5⟩ := rs_one he l _ 4 e4
  exact ⟨h0, h1, h2, h3, h4, by rw [e5]; rfl⟩
theorem encs_bts (l : List Int) : Bts (encs l) := by
  intro x hx
  obtain ⟨n, _, h⟩ := List.mem_flatMap.1 hx
  exact enc_bts n x h
end Wr
namespace Or
theorem put_bts (o : O) : Wr.Bts (put o) := by
  unfold put; split
  · exact Wr.encs_bts _
  · intro x hx; cases hx
theorem say_bts (s : S) : Wr.Bts (say s) := by
  unfold say; split
  · exact Wr.encs_bts _
  · intro x hx; cases hx
theorem put_len {o : O} (h : O64 o) : (put o).length ≤ 50 := by
  unfold put; split
  · exact Wr.encs_len (l := nums o) (by obtain ⟨a, b, c, d, e⟩ := h; intro x hx; simp [nums] at hx; rcases hx with rfl | rfl | rfl | rfl | rfl <;> assumption)
  · simp
theorem say_len {s : S} (h : S64 s) : (say s).length ≤ 50 := by
  unfold say; split
  · exact Wr.encs_len (l := snums s) (by obtain ⟨a, b, c, d, e⟩ := h; intro x hx; simp [snums] at hx; rcases hx with rfl | rfl | rfl | rfl | rfl <;> assumption)
  · simp
theorem ok_put {o : O} (h : O64 o) (hv : valid o = true) : okO (put o) = true ∧ decO (put o) = o := by
  have e : put o = Wr.encs [o.u, o.e, o.k, o.i, o.n] := by unfold put; rw [hv]; rfl
  obtain ⟨h0, h1, h2, h3, h4, h5⟩ := Wr.rs_five h.1 h.2.1 h.2.2.1 h.2.2.2.1 h.2.2.2.2 (put o) e
  have ho : ofR (put o) = o := by unfold ofR; rw [h0, h1, h2, h3, h4]
  have hk : okO (put o) = true := by unfold okO; rw [h5, ho, hv]; rfl
  exact ⟨hk, by unfold decO; rw [hk, ho]; rfl⟩
theorem ok_say {s : S} (h : S64 s) (hv : fit s = true) : okS (say s) = true ∧ decS (say s) = s := by
  have e : say s = Wr.encs [s.u, s.q, s.s, s.n, s.e] := by unfold say; rw [hv]; rfl
  obtain ⟨h0, h1, h2, h3, h4, h5⟩ := Wr.rs_five h.1 h.2.1 h.2.2.1 h.2.2.2.1 h.2.2.2.2 (say s) e
  have ho : ofS (say s) = s := by unfold ofS; rw [h0, h1, h2, h3, h4]
  have hk : okS (say s) = true := by unfold okS; rw [h5, ho, hv]; rfl
  exact ⟨hk, by unfold decS; rw [hk, ho]; rfl⟩
theorem put_pos {o : O} (hv : valid o = true) : 0 < (put o).length := by
  unfold put; rw [hv]
  have := Wr.enc_pos o.u
  show 0 < (Wr.encs [o.u, o.e, o.k, o.i, o.n]).length
  rw [encs5]; simp only [List.length_append]; omega
theorem say_pos {s : S} (hv : fit s = true) : 0 < (say s).length := by
  unfold say; rw [hv]
  have := Wr.enc_pos s.u
  show 0 < (Wr.encs [s.u, s.q, s.s, s.n, s.e]).length
  rw [encs5]; simp only [List.length_append]; omega
theorem bad_put {o : O} (hv : valid o = false) : put o = [] ∧ okO (put o) = false ∧ decO (put o) = ⟨0, 0, 0, 0, 0⟩ := by
  have e : put o = [] := by unfold put; rw [hv]; rfl
  have : okO [] = false := by decide +kernel
  exact ⟨e, by rw [e]; exact this, by rw [e]; unfold decO; rw [this]; rfl⟩
theorem bad_say {s : S} (hv : fit s = false) : say s = [] ∧ okS (say s) = false ∧ decS (say s) = ⟨0, 0, 0, 0, 0⟩ := by
  have e : say s = [] := by unfold say; rw [hv]; rfl
  have : okS [] = false := by decide +kernel
  exact ⟨e, by rw [e]; exact this, by rw [e]; unfold decS; rw [this]; rfl⟩
end Or

set_option maxRecDepth 100000 in
set_option maxHeartbeats 1000000 in
theorem roundTrips_TT (o : Or.O) (s : Or.S) (w : World) (ho : Or.O64 o) (hs : Or.S64 s) (hv : Or.valid o = true) (hf : Or.fit s = true) :
    Calls Try.prog 8 #[.agg #[.int .i64 o.u, .int .i64 o.e, .int .i64 o.k, .int .i64 o.i, .int .i64 o.n], .agg #[.int .i64 s.u, .int .i64 s.q, .int .i64 s.s, .int .i64 s.n, .int .i64 s.e]] w fun e w' => e = .returned (.bool true) ∧ Below w.heap.size w w' := by
  have HOB := Lib.hid (show Or.decO (Or.put o) = ⟨o.u, o.e, o.k, o.i, o.n⟩ ∧ Or.decE (Or.okO (Or.put o)) = 0 by obtain ⟨h1, h2⟩ := Or.ok_put ho hv; rw [h1, h2]; exact ⟨rfl, rfl⟩)
  have HSB := Lib.hid (show Or.decS (Or.say s) = ⟨s.u, s.q, s.s, s.n, s.e⟩ ∧ Or.decE (Or.okS (Or.say s)) = 0 by obtain ⟨h1, h2⟩ := Or.ok_say hs hf; rw [h1, h2]; exact ⟨rfl, rfl⟩)
  have HPL := Lib.hid (Or.put_len ho)
  have HSL := Lib.hid (Or.say_len hs)
  have hS0 : (((Or.say s).length : Int) == 0) = false := by have := Or.say_pos hf; rw [beq_eq_false_iff_ne]; omega
  have HO := Lib.hid ho
  have HS64 := Lib.hid hs
  have HV := Lib.hid hv
  have HX := Lib.hid ((Blk.new w 29 #[.int .i64 o.u, .int .i64 o.e, .int .i64 o.k, .int .i64 o.i, .int .i64 o.n]).alloc (.cells #[.int .i64 s.u, .int .i64 s.q, .int .i64 s.s, .int .i64 s.n, .int .i64 s.e] 45))
  have HY := Lib.hid (Blk.new' (w.alloc (.cells #[.int .i64 o.u, .int .i64 o.e, .int .i64 o.k, .int .i64 o.i, .int .i64 o.n] 29)) 45 #[.int .i64 s.u, .int .i64 s.q, .int .i64 s.s, .int .i64 s.n, .int .i64 s.e] (w.heap.size + 1) (by simp))
  have hal := (Below.refl w.heap.size w).alloc (Nat.le_refl _) (.cells #[.int .i64 o.u, .int .i64 o.e, .int .i64 o.k, .int .i64 o.i, .int .i64 o.n] 29)
  have HB := Lib.hid (hal.alloc hal.size (.cells #[.int .i64 s.u, .int .i64 s.q, .int .i64 s.s, .int .i64 s.n, .int .i64 s.e] 45))
  clear ho hs hal hv hf
  go_enter Try.func8, Try.ntmps8
  go_wp2_with fail
  refine (alive_any _).mono ?_
  rintro e w0 ⟨rfl, hb⟩
  have TX := Lib.hid (HX.out.low hb)
  have TY := Lib.hid (HY.out.low hb)
  have TB := Lib.hid (HB.out.trans (hb.mono HB.out.size))
  clear hb HX HY HB
  have HX := Lib.hid TX.out
  have HY := Lib.hid TY.out
  have HB := Lib.hid TB.out
  clear TB TX TY
  have x0 : w0.cell? ⟨w.heap.size, 0, none⟩ = some (.int .i64 o.u) := HX.out.cell 0
  have x1 : w0.cell? ⟨w.heap.size, 1, none⟩ = some (.int .i64 o.e) := HX.out.cell 1
  have x2 : w0.cell? ⟨w.heap.size, 2, none⟩ = some (.int .i64 o.k) := HX.out.cell 2
  have x3 : w0.cell? ⟨w.heap.size, 3, none⟩ = some (.int .i64 o.i) := HX.out.cell 3
  have x4 : w0.cell? ⟨w.heap.size, 4, none⟩ = some (.int .i64 o.n) := HX.out.cell 4
  have ltX := HX.out.lt
  have y0 : w0.cell? ⟨w.heap.size + 1, 0, none⟩ = some (.int .i64 s.u) := HY.out.cell 0
  have y1 : w0.cell? ⟨w.heap.size + 1, 1, none⟩ = some (.int .i64 s.q) := HY.out.cell 1
  have y2 : w0.cell? ⟨w.heap.size + 1, 2, none⟩ = some (.int .i64 s.s) := HY.out.cell 2
  have y3 : w0.cell? ⟨w.heap.size + 1, 3, none⟩ = some (.int .i64 s.n) := HY.out.cell 3
  have y4 : w0.cell? ⟨w.heap.size + 1, 4, none⟩ = some (.int .i64 s.e) := HY.out.cell 4
  have ltY := HY.out.lt
  go_wp2_with fail
  refine (encodeOrder_any o _ HO.out).mono ?_
  rintro e w1 ⟨Aw1, cw1, rfl, hown, hb⟩
  have TX := Lib.hid (HX.out.low hb)
  have TY := Lib.hid (HY.out.low hb)
  have TB := Lib.hid (HB.out.trans (hb.mono HB.out.size))
  have HR := Lib.hid (Rd.of_own hown)
  clear x0 x1 x2 x3 x4 y0 y1 y2 y3 y4 ltX ltY
  clear hb hown HX HY HB
  have HX := Lib.hid TX.out
  have HY := Lib.hid TY.out
  have HB := Lib.hid TB.out
  clear TB TX TY
  have x0 : w1.cell? ⟨w.heap.size, 0, none⟩ = some (.int .i64 o.u) := HX.out.cell 0
  have x1 : w1.cell? ⟨w.heap.size, 1, none⟩ = some (.int .i64 o.e) := HX.out.cell 1
  have x2 : w1.cell? ⟨w.heap.size, 2, none⟩ = some (.int .i64 o.k) := HX.out.cell 2
  have x3 : w1.cell? ⟨w.heap.size, 3, none⟩ = some (.int .i64 o.i) := HX.out.cell 3
  have x4 : w1.cell? ⟨w.heap.size, 4, none⟩ = some (.int .i64 o.n) := HX.out.cell 4
  have ltX := HX.out.lt
  have y0 : w1.cell? ⟨w.heap.size + 1, 0, none⟩ = some (.int .i64 s.u) := HY.out.cell 0
  have y1 : w1.cell? ⟨w.heap.size + 1, 1, none⟩ = some (.int .i64 s.q) := HY.out.cell 1
  have y2 : w1.cell? ⟨w.heap.size + 1, 2, none⟩ = some (.int .i64 s.s) := HY.out.cell 2
  have y3 : w1.cell? ⟨w.heap.size + 1, 3, none⟩ = some (.int .i64 s.n) := HY.out.cell 3
  have y4 : w1.cell? ⟨w.heap.size + 1, 4, none⟩ = some (.int .i64 s.e) := HY.out.cell 4
  have ltY := HY.out.lt
  go_wp2_with fail
  refine (decodeOrder_any _ (Or.put o) _ _ HR.out (Or.put_bts o) (by have := HPL.out; omega)).mono ?_
  rw [HOB.out.1, HOB.out.2]
  rintro e w2 ⟨rfl, hb⟩
  have TX := Lib.hid (HX.out.low hb)
  have TY := Lib.hid (HY.out.low hb)
  have TB := Lib.hid (HB.out.trans (hb.mono HB.out.size))
  clear x0 x1 x2 x3 x4 y0 y1 y2 y3 y4 ltX ltY
  clear hb HX HY HB
  have HX := Lib.hid TX.out
  have HY := Lib.hid TY.out
  have HB := Lib.hid TB.out
  clear TB TX TY
  have x0 : w2.cell? ⟨w.heap.size, 0, none⟩ = some (.int .i64 o.u) := HX.out.cell 0
  have x1 : w2.cell? ⟨w.heap.size, 1, none⟩ = some (.int .i64 o.e) := HX.out.cell 1
  have x2 : w2.cell? ⟨w.heap.size, 2, none⟩ = some (.int .i64 o.k) := HX.out.cell 2
  have x3 : w2.cell? ⟨w.heap.size, 3, none⟩ = some (.int .i64 o.i) := HX.out.cell 3
  have x4 : w2.cell? ⟨w.heap.size, 4, none⟩ = some (.int .i64 o.n) := HX.out.cell 4
  have ltX := HX.out.lt
  have y0 : w2.cell? ⟨w.heap.size + 1, 0, none⟩ = some (.int .i64 s.u) := HY.out.cell 0
  have y1 : w2.cell? ⟨w.heap.size + 1, 1, none⟩ = some (.int .i64 s.q) := HY.out.cell 1
  have y2 : w2.cell? ⟨w.heap.size + 1, 2, none⟩ = some (.int .i64 s.s) := HY.out.cell 2
  have y3 : w2.cell? ⟨w.heap.size + 1, 3, none⟩ = some (.int .i64 s.n) := HY.out.cell 3
  have y4 : w2.cell? ⟨w.heap.size + 1, 4, none⟩ = some (.int .i64 s.e) := HY.out.cell 4
  have ltY := HY.out.lt
  clear HR
  go_wp2_with fail
  obtain ⟨bp, hbk⟩ : ∃ b, w2.heap.size = b := ⟨_, rfl⟩
  have HP := Lib.hid (Blk.new' w2 29 #[.int .i64 o.u, .int .i64 o.e, .int .i64 o.k, .int .i64 o.i, .int .i64 o.n] bp hbk)
  have TX := Lib.hid (HX.out.alloc (.cells #[.int .i64 o.u, .int .i64 o.e, .int .i64 o.k, .int .i64 o.i, .int .i64 o.n] 29))
  have TY := Lib.hid (HY.out.alloc (.cells #[.int .i64 o.u, .int .i64 o.e, .int .i64 o.k, .int .i64 o.i, .int .i64 o.n] 29))
  have TB := Lib.hid (HB.out.alloc HB.out.size (.cells #[.int .i64 o.u, .int .i64 o.e, .int .i64 o.k, .int .i64 o.i, .int .i64 o.n] 29))
  clear x0 x1 x2 x3 x4 y0 y1 y2 y3 y4 ltX ltY
  clear HB HX HY
  try rw [hbk]
  obtain ⟨w3, hw⟩ : ∃ w', w2.alloc (.cells #[.int .i64 o.u, .int .i64 o.e, .int .i64 o.k, .int .i64 o.i, .int .i64 o.n] 29) = w' := ⟨_, rfl⟩
  rw [hw] at HP TB TX TY ⊢
  have HX := Lib.hid TX.out
  have HY := Lib.hid TY.out
  have HB := Lib.hid TB.out
  clear TB hw hbk TX TY
  have x0 : w3.cell? ⟨w.heap.size, 0, none⟩ = some (.int .i64 o.u) := HX.out.cell 0
  have x1 : w3.cell? ⟨w.heap.size, 1, none⟩ = some (.int .i64 o.e) := HX.out.cell 1
  have x2 : w3.cell? ⟨w.heap.size, 2, none⟩ = some (.int .i64 o.k) := HX.out.cell 2
  have x3 : w3.cell? ⟨w.heap.size, 3, none⟩ = some (.int .i64 o.i) := HX.out.cell 3
  have x4 : w3.cell? ⟨w.heap.size, 4, none⟩ = some (.int .i64 o.n) := HX.out.cell 4
  have ltX := HX.out.lt
  have y0 : w3.cell? ⟨w.heap.size + 1, 0, none⟩ = some (.int .i64 s.u) := HY.out.cell 0
  have y1 : w3.cell? ⟨w.heap.size + 1, 1, none⟩ = some (.int .i64 s.q) := HY.out.cell 1
  have y2 : w3.cell? ⟨w.heap.size + 1, 2, none⟩ = some (.int .i64 s.s) := HY.out.cell 2
  have y3 : w3.cell? ⟨w.heap.size + 1, 3, none⟩ = some (.int .i64 s.n) := HY.out.cell 3
  have y4 : w3.cell? ⟨w.heap.size + 1, 4, none⟩ = some (.int .i64 s.e) := HY.out.cell 4
  have ltY := HY.out.lt
  have p0 : w3.cell? ⟨bp, 0, none⟩ = some (.int .i64 o.u) := HP.out.cell 0
  have p1 : w3.cell? ⟨bp, 1, none⟩ = some (.int .i64 o.e) := HP.out.cell 1
  have p2 : w3.cell? ⟨bp, 2, none⟩ = some (.int .i64 o.k) := HP.out.cell 2
  have p3 : w3.cell? ⟨bp, 3, none⟩ = some (.int .i64 o.i) := HP.out.cell 3
  have p4 : w3.cell? ⟨bp, 4, none⟩ = some (.int .i64 o.n) := HP.out.cell 4
  have ltP := HP.out.lt
  refine (encodeStatus_any s _ HS64.out).mono ?_
  rintro e w4 ⟨Aw4, cw4, rfl, hown, hb⟩
  have TX := Lib.hid (HX.out.low hb)
  have TY := Lib.hid (HY.out.low hb)
  have TP := Lib.hid (HP.out.low hb)
  have TB := Lib.hid (HB.out.trans (hb.mono HB.out.size))
  have HR := Lib.hid (Rd.of_own hown)
  clear x0 x1 x2 x3 x4 y0 y1 y2 y3 y4 p0 p1 p2 p3 p4 ltX ltY ltP
  clear hb hown HX HY HP HB
  have HX := Lib.hid TX.out
  have HY := Lib.hid TY.out
  have HP := Lib.hid TP.out
  have HB := Lib.hid TB.out
  clear TB TX TY TP
  have x0 : w4.cell? ⟨w.heap.size, 0, none⟩ = some (.int .i64 o.u) := HX.out.cell 0
  have x1 : w4.cell? ⟨w.heap.size, 1, none⟩ = some (.int .i64 o.e) := HX.out.cell 1
  have x2 : w4.cell? ⟨w.heap.size, 2, none⟩ = some (.int .i64 o.k) := HX.out.cell 2
  have x3 : w4.cell? ⟨w.heap.size, 3, none⟩ = some (.int .i64 o.i) := HX.out.cell 3
  have x4 : w4.cell? ⟨w.heap.size, 4, none⟩ = some (.int .i64 o.n) := HX.out.cell 4
  have ltX := HX.out.lt
  have y0 : w4.cell? ⟨w.heap.size + 1, 0, none⟩ = some (.int .i64 s.u) := HY.out.cell 0
  have y1 : w4.cell? ⟨w.heap.size + 1, 1, none⟩ = some (.int .i64 s.q) := HY.out.cell 1
  have y2 : w4.cell? ⟨w.heap.size + 1, 2, none⟩ = some (.int .i64 s.s) := HY.out.cell 2
  have y3 : w4.cell? ⟨w.heap.size + 1, 3, none⟩ = some (.int .i64 s.n) := HY.out.cell 3
  have y4 : w4.cell? ⟨w.heap.size + 1, 4, none⟩ = some (.int .i64 s.e) := HY.out.cell 4
  have ltY := HY.out.lt
  have p0 : w4.cell? ⟨bp, 0, none⟩ = some (.int .i64 o.u) := HP.out.cell 0
  have p1 : w4.cell? ⟨bp, 1, none⟩ = some (.int .i64 o.e) := HP.out.cell 1
  have p2 : w4.cell? ⟨bp, 2, none⟩ = some (.int .i64 o.k) := HP.out.cell 2
  have p3 : w4.cell? ⟨bp, 3, none⟩ = some (.int .i64 o.i) := HP.out.cell 3
  have p4 : w4.cell? ⟨bp, 4, none⟩ = some (.int .i64 o.n) := HP.out.cell 4
  have ltP := HP.out.lt
  go_wp2_with fail
  refine (decodeStatus_any _ (Or.say s) _ _ HR.out (Or.say_bts s) (by have := HSL.out; omega)).mono ?_
  rw [HSB.out.1, HSB.out.2]
  rintro e w5 ⟨rfl, hb⟩
  have TX := Lib.hid (HX.out.low hb)
  have TY := Lib.hid (HY.out.low hb)
  have TP := Lib.hid (HP.out.low hb)
  have TB := Lib.hid (HB.out.trans (hb.mono HB.out.size))
  clear x0 x1 x2 x3 x4 y0 y1 y2 y3 y4 p0 p1 p2 p3 p4 ltX ltY ltP
  clear hb HX HY HP HB
  have HX := Lib.hid TX.out
  have HY := Lib.hid TY.out
  have HP := Lib.hid TP.out
  have HB := Lib.hid TB.out
  clear TB TX TY TP
  have x0 : w5.cell? ⟨w.heap.size, 0, none⟩ = some (.int .i64 o.u) := HX.out.cell 0
  have x1 : w5.cell? ⟨w.heap.size, 1, none⟩ = some (.int .i64 o.e) := HX.out.cell 1
  have x2 : w5.cell? ⟨w.heap.size, 2, none⟩ = some (.int .i64 o.k) := HX.out.cell 2
  have x3 : w5.cell? ⟨w.heap.size, 3, none⟩ = some (.int .i64 o.i) := HX.out.cell 3
  have x4 : w5.cell? ⟨w.heap.size, 4, none⟩ = some (.int .i64 o.n) := HX.out.cell 4
  have ltX := HX.out.lt
  have y0 : w5.cell? ⟨w.heap.size + 1, 0, none⟩ = some (.int .i64 s.u) := HY.out.cell 0
  have y1 : w5.cell? ⟨w.heap.size + 1, 1, none⟩ = some (.int .i64 s.q) := HY.out.cell 1
  have y2 : w5.cell? ⟨w.heap.size + 1, 2, none⟩ = some (.int .i64 s.s) := HY.out.cell 2
  have y3 : w5.cell? ⟨w.heap.size + 1, 3, none⟩ = some (.int .i64 s.n) := HY.out.cell 3
  have y4 : w5.cell? ⟨w.heap.size + 1, 4, none⟩ = some (.int .i64 s.e) := HY.out.cell 4
  have ltY := HY.out.lt
  have p0 : w5.cell? ⟨bp, 0, none⟩ = some (.int .i64 o.u) := HP.out.cell 0
  have p1 : w5.cell? ⟨bp, 1, none⟩ = some (.int .i64 o.e) := HP.out.cell 1
  have p2 : w5.cell? ⟨bp, 2, none⟩ = some (.int .i64 o.k) := HP.out.cell 2
  have p3 : w5.cell? ⟨bp, 3, none⟩ = some (.int .i64 o.i) := HP.out.cell 3
  have p4 : w5.cell? ⟨bp, 4, none⟩ = some (.int .i64 o.n) := HP.out.cell 4
  have ltP := HP.out.lt
  clear HR
  go_wp2_with fail
  obtain ⟨bq, hbk⟩ : ∃ b, w5.heap.size = b := ⟨_, rfl⟩
  have HQ := Lib.hid (Blk.new' w5 45 #[.int .i64 s.u, .int .i64 s.q, .int .i64 s.s, .int .i64 s.n, .int .i64 s.e] bq hbk)
  have TX := Lib.hid (HX.out.alloc (.cells #[.int .i64 s.u, .int .i64 s.q, .int .i64 s.s, .int .i64 s.n, .int .i64 s.e] 45))
  have TY := Lib.hid (HY.out.alloc (.cells #[.int .i64 s.u, .int .i64 s.q, .int .i64 s.s, .int .i64 s.n, .int .i64 s.e] 45))
  have TP := Lib.hid (HP.out.alloc (.cells #[.int .i64 s.u, .int .i64 s.q, .int .i64 s.s, .int .i64 s.n, .int .i64 s.e] 45))
  have TB := Lib.hid (HB.out.alloc HB.out.size (.cells #[.int .i64 s.u, .int .i64 s.q, .int .i64 s.s, .int .i64 s.n, .int .i64 s.e] 45))
  clear x0 x1 x2 x3 x4 y0 y1 y2 y3 y4 p0 p1 p2 p3 p4 ltX ltY ltP
  clear HB HX HY HP
  try rw [hbk]
  obtain ⟨w6, hw⟩ : ∃ w', w5.alloc (.cells #[.int .i64 s.u, .int .i64 s.q, .int .i64 s.s, .int .i64 s.n, .int .i64 s.e] 45) = w' := ⟨_, rfl⟩
  rw [hw] at HQ TB TX TY TP ⊢
  have HX := Lib.hid TX.out
  have HY := Lib.hid TY.out
  have HP := Lib.hid TP.out
  have HB := Lib.hid TB.out
  clear TB hw hbk TX TY TP
  have x0 : w6.cell? ⟨w.heap.size, 0, none⟩ = some (.int .i64 o.u) := HX.out.cell 0
  have x1 : w6.cell? ⟨w.heap.size, 1, none⟩ = some (.int .i64 o.e) := HX.out.cell 1
  have x2 : w6.cell? ⟨w.heap.size, 2, none⟩ = some (.int .i64 o.k) := HX.out.cell 2
  have x3 : w6.cell? ⟨w.heap.size, 3, none⟩ = some (.int .i64 o.i) := HX.out.cell 3
  have x4 : w6.cell? ⟨w.heap.size, 4, none⟩ = some (.int .i64 o.n) := HX.out.cell 4
  have ltX := HX.out.lt
  have y0 : w6.cell? ⟨w.heap.size + 1, 0, none⟩ = some (.int .i64 s.u) := HY.out.cell 0
  have y1 : w6.cell? ⟨w.heap.size + 1, 1, none⟩ = some (.int .i64 s.q) := HY.out.cell 1
  have y2 : w6.cell? ⟨w.heap.size + 1, 2, none⟩ = some (.int .i64 s.s) := HY.out.cell 2
  have y3 : w6.cell? ⟨w.heap.size + 1, 3, none⟩ = some (.int .i64 s.n) := HY.out.cell 3
  have y4 : w6.cell? ⟨w.heap.size + 1, 4, none⟩ = some (.int .i64 s.e) := HY.out.cell 4
  have ltY := HY.out.lt
  have p0 : w6.cell? ⟨bp, 0, none⟩ = some (.int .i64 o.u) := HP.out.cell 0
  have p1 : w6.cell? ⟨bp, 1, none⟩ = some (.int .i64 o.e) := HP.out.cell 1
  have p2 : w6.cell? ⟨bp, 2, none⟩ = some (.int .i64 o.k) := HP.out.cell 2
  have p3 : w6.cell? ⟨bp, 3, none⟩ = some (.int .i64 o.i) := HP.out.cell 3
  have p4 : w6.cell? ⟨bp, 4, none⟩ = some (.int .i64 o.n) := HP.out.cell 4
  have ltP := HP.out.lt
  have q0 : w6.cell? ⟨bq, 0, none⟩ = some (.int .i64 s.u) := HQ.out.cell 0
  have q1 : w6.cell? ⟨bq, 1, none⟩ = some (.int .i64 s.q) := HQ.out.cell 1
  have q2 : w6.cell? ⟨bq, 2, none⟩ = some (.int .i64 s.s) := HQ.out.cell 2
  have q3 : w6.cell? ⟨bq, 3, none⟩ = some (.int .i64 s.n) := HQ.out.cell 3
  have q4 : w6.cell? ⟨bq, 4, none⟩ = some (.int .i64 s.e) := HQ.out.cell 4
  have ltQ := HQ.out.lt
  refine (valid_any o _).mono ?_
  rw [HV.out]
  rintro e w7 ⟨rfl, hb⟩
  have TX := Lib.hid (HX.out.low hb)
  have TY := Lib.hid (HY.out.low hb)
  have TP := Lib.hid (HP.out.low hb)
  have TQ := Lib.hid (HQ.out.low hb)
  have TB := Lib.hid (HB.out.trans (hb.mono HB.out.size))
  clear x0 x1 x2 x3 x4 y0 y1 y2 y3 y4 p0 p1 p2 p3 p4 q0 q1 q2 q3 q4 ltX ltY ltP ltQ
  clear hb HX HY HP HQ HB
  have HX := Lib.hid TX.out
  have HY := Lib.hid TY.out
  have HP := Lib.hid TP.out
  have HQ := Lib.hid TQ.out
  have HB := Lib.hid TB.out
  clear TB TX TY TP TQ
  have x0 : w7.cell? ⟨w.heap.size, 0, none⟩ = some (.int .i64 o.u) := HX.out.cell 0
  have x1 : w7.cell? ⟨w.heap.size, 1, none⟩ = some (.int .i64 o.e) := HX.out.cell 1
  have x2 : w7.cell? ⟨w.heap.size, 2, none⟩ = some (.int .i64 o.k) := HX.out.cell 2
  have x3 : w7.cell? ⟨w.heap.size, 3, none⟩ = some (.int .i64 o.i) := HX.out.cell 3
  have x4 : w7.cell? ⟨w.heap.size, 4, none⟩ = some (.int .i64 o.n) := HX.out.cell 4
  have ltX := HX.out.lt
  have y0 : w7.cell? ⟨w.heap.size + 1, 0, none⟩ = some (.int .i64 s.u) := HY.out.cell 0
  have y1 : w7.cell? ⟨w.heap.size + 1, 1, none⟩ = some (.int .i64 s.q) := HY.out.cell 1
  have y2 : w7.cell? ⟨w.heap.size + 1, 2, none⟩ = some (.int .i64 s.s) := HY.out.cell 2
  have y3 : w7.cell? ⟨w.heap.size + 1, 3, none⟩ = some (.int .i64 s.n) := HY.out.cell 3
  have y4 : w7.cell? ⟨w.heap.size + 1, 4, none⟩ = some (.int .i64 s.e) := HY.out.cell 4
  have ltY := HY.out.lt
  have p0 : w7.cell? ⟨bp, 0, none⟩ = some (.int .i64 o.u) := HP.out.cell 0
  have p1 : w7.cell? ⟨bp, 1, none⟩ = some (.int .i64 o.e) := HP.out.cell 1
  have p2 : w7.cell? ⟨bp, 2, none⟩ = some (.int .i64 o.k) := HP.out.cell 2
  have p3 : w7.cell? ⟨bp, 3, none⟩ = some (.int .i64 o.i) := HP.out.cell 3
  have p4 : w7.cell? ⟨bp, 4, none⟩ = some (.int .i64 o.n) := HP.out.cell 4
  have ltP := HP.out.lt
  have q0 : w7.cell? ⟨bq, 0, none⟩ = some (.int .i64 s.u) := HQ.out.cell 0
  have q1 : w7.cell? ⟨bq, 1, none⟩ = some (.int .i64 s.q) := HQ.out.cell 1
  have q2 : w7.cell? ⟨bq, 2, none⟩ = some (.int .i64 s.s) := HQ.out.cell 2
  have q3 : w7.cell? ⟨bq, 3, none⟩ = some (.int .i64 s.n) := HQ.out.cell 3
  have q4 : w7.cell? ⟨bq, 4, none⟩ = some (.int .i64 s.e) := HQ.out.cell 4
  have ltQ := HQ.out.lt
  go_wp2_with fail
  refine (encodeStatus_any s _ HS64.out).mono ?_
  rintro e w9 ⟨Aw9, cw9, rfl, hown, hb⟩
  have TX := Lib.hid (HX.out.low hb)
  have TY := Lib.hid (HY.out.low hb)
  have TP := Lib.hid (HP.out.low hb)
  have TQ := Lib.hid (HQ.out.low hb)
  have TB := Lib.hid (HB.out.trans (hb.mono HB.out.size))
  have HR := Lib.hid (Rd.of_own hown)
  clear x0 x1 x2 x3 x4 y0 y1 y2 y3 y4 p0 p1 p2 p3 p4 q0 q1 q2 q3 q4 ltX ltY ltP ltQ
  clear hb hown HX HY HP HQ HB
  have HX := Lib.hid TX.out
  have HY := Lib.hid TY.out
  have HP := Lib.hid TP.out
  have HQ := Lib.hid TQ.out
  have HB := Lib.hid TB.out
  clear TB TX TY TP TQ
  have x0 : w9.cell? ⟨w.heap.size, 0, none⟩ = some (.int .i64 o.u) := HX.out.cell 0
  have x1 : w9.cell? ⟨w.heap.size, 1, none⟩ = some (.int .i64 o.e) := HX.out.cell 1
  have x2 : w9.cell? ⟨w.heap.size, 2, none⟩ = some (.int .i64 o.k) := HX.out.cell 2
  have x3 : w9.cell? ⟨w.heap.size, 3, none⟩ = some (.int .i64 o.i) := HX.out.cell 3
  have x4 : w9.cell? ⟨w.heap.size, 4, none⟩ = some (.int .i64 o.n) := HX.out.cell 4
  have ltX := HX.out.lt
  have y0 : w9.cell? ⟨w.heap.size + 1, 0, none⟩ = some (.int .i64 s.u) := HY.out.cell 0
  have y1 : w9.cell? ⟨w.heap.size + 1, 1, none⟩ = some (.int .i64 s.q) := HY.out.cell 1
  have y2 : w9.cell? ⟨w.heap.size + 1, 2, none⟩ = some (.int .i64 s.s) := HY.out.cell 2
  have y3 : w9.cell? ⟨w.heap.size + 1, 3, none⟩ = some (.int .i64 s.n) := HY.out.cell 3
  have y4 : w9.cell? ⟨w.heap.size + 1, 4, none⟩ = some (.int .i64 s.e) := HY.out.cell 4
  have ltY := HY.out.lt
  have p0 : w9.cell? ⟨bp, 0, none⟩ = some (.int .i64 o.u) := HP.out.cell 0
  have p1 : w9.cell? ⟨bp, 1, none⟩ = some (.int .i64 o.e) := HP.out.cell 1
  have p2 : w9.cell? ⟨bp, 2, none⟩ = some (.int .i64 o.k) := HP.out.cell 2
  have p3 : w9.cell? ⟨bp, 3, none⟩ = some (.int .i64 o.i) := HP.out.cell 3
  have p4 : w9.cell? ⟨bp, 4, none⟩ = some (.int .i64 o.n) := HP.out.cell 4
  have ltP := HP.out.lt
  have q0 : w9.cell? ⟨bq, 0, none⟩ = some (.int .i64 s.u) := HQ.out.cell 0
  have q1 : w9.cell? ⟨bq, 1, none⟩ = some (.int .i64 s.q) := HQ.out.cell 1
  have q2 : w9.cell? ⟨bq, 2, none⟩ = some (.int .i64 s.s) := HQ.out.cell 2
  have q3 : w9.cell? ⟨bq, 3, none⟩ = some (.int .i64 s.n) := HQ.out.cell 3
  have q4 : w9.cell? ⟨bq, 4, none⟩ = some (.int .i64 s.e) := HQ.out.cell 4
  have ltQ := HQ.out.lt
  clear HR
  go_wp2
  go_ret
  exact ⟨ret_bool (by simp), HB.out⟩
set_option maxRecDepth 100000 in
set_option maxHeartbeats 1000000 in
theorem roundTrips_TF (o : Or.O) (s : Or.S) (w : World) (ho : Or.O64 o) (hs : Or.S64 s) (hv : Or.valid o = true) (hf : Or.fit s = false) :
    Calls Try.prog 8 #[.agg #[.int .i64 o.u, .int .i64 o.e, .int .i64 o.k, .int .i64 o.i, .int .i64 o.n], .agg #[.int .i64 s.u, .int .i64 s.q, .int .i64 s.s, .int .i64 s.n, .int .i64 s.e]] w fun e w' => e = .returned (.bool true) ∧ Below w.heap.size w w' := by
  have HOB := Lib.hid (show Or.decO (Or.put o) = ⟨o.u, o.e, o.k, o.i, o.n⟩ ∧ Or.decE (Or.okO (Or.put o)) = 0 by obtain ⟨h1, h2⟩ := Or.ok_put ho hv; rw [h1, h2]; exact ⟨rfl, rfl⟩)
  have HSB := Lib.hid (show Or.decS (Or.say s) = ⟨0, 0, 0, 0, 0⟩ ∧ Or.decE (Or.okS (Or.say s)) = 2 by obtain ⟨_, h1, h2⟩ := Or.bad_say hf; rw [h1, h2]; exact ⟨rfl, rfl⟩)
  have HPL := Lib.hid (Or.put_len ho)
  have HSL := Lib.hid (Or.say_len hs)
  have HS0 := Lib.hid (show (Or.say s).length = 0 by rw [(Or.bad_say hf).1]; rfl)
  have HO := Lib.hid ho
  have HS64 := Lib.hid hs
  have HV := Lib.hid hv
  have HX := Lib.hid ((Blk.new w 29 #[.int .i64 o.u, .int .i64 o.e, .int .i64 o.k, .int .i64 o.i, .int .i64 o.n]).alloc (.cells #[.int .i64 s.u, .int .i64 s.q, .int .i64 s.s, .int .i64 s.n, .int .i64 s.e] 45))
  have HY := Lib.hid (Blk.new' (w.alloc (.cells #[.int .i64 o.u, .int .i64 o.e, .int .i64 o.k, .int .i64 o.i, .int .i64 o.n] 29)) 45 #[.int .i64 s.u, .int .i64 s.q, .int .i64 s.s, .int .i64 s.n, .int .i64 s.e] (w.heap.size + 1) (by simp))
  have hal := (Below.refl w.heap.size w).alloc (Nat.le_refl _) (.cells #[.int .i64 o.u, .int .i64 o.e, .int .i64 o.k, .int .i64 o.i, .int .i64 o.n] 29)
  have HB := Lib.hid (hal.alloc hal.size (.cells #[.int .i64 s.u, .int .i64 s.q, .int .i64 s.s, .int .i64 s.n, .int .i64 s.e] 45))
  clear ho hs hal hv hf
  go_enter Try.func8, Try.ntmps8
  go_wp2_with fail
  refine (alive_any _).mono ?_
  rintro e w0 ⟨rfl, hb⟩
  have TX := Lib.hid (HX.out.low hb)
  have TY := Lib.hid (HY.out.low hb)
  have TB := Lib.hid (HB.out.trans (hb.mono HB.out.size))
  clear hb HX HY HB
  have HX := Lib.hid TX.out
  have HY := Lib.hid TY.out
  have HB := Lib.hid TB.out
  clear TB TX TY
  have x0 : w0.cell? ⟨w.heap.size, 0, none⟩ = some (.int .i64 o.u) := HX.out.cell 0
  have x1 : w0.cell? ⟨w.heap.size, 1, none⟩ = some (.int .i64 o.e) := HX.out.cell 1
  have x2 : w0.cell? ⟨w.heap.size, 2, none⟩ = some (.int .i64 o.k) := HX.out.cell 2
  have x3 : w0.cell? ⟨w.heap.size, 3, none⟩ = some (.int .i64 o.i) := HX.out.cell 3
  have x4 : w0.cell? ⟨w.heap.size, 4, none⟩ = some (.int .i64 o.n) := HX.out.cell 4
  have ltX := HX.out.lt
  have y0 : w0.cell? ⟨w.heap.size + 1, 0, none⟩ = some (.int .i64 s.u) := HY.out.cell 0
  have y1 : w0.cell? ⟨w.heap.size + 1, 1, none⟩ = some (.int .i64 s.q) := HY.out.cell 1
  have y2 : w0.cell? ⟨w.heap.size + 1, 2, none⟩ = some (.int .i64 s.s) := HY.out.cell 2
  have y3 : w0.cell? ⟨w.heap.size + 1, 3, none⟩ = some (.int .i64 s.n) := HY.out.cell 3
  have y4 : w0.cell? ⟨w.heap.size + 1, 4, none⟩ = some (.int .i64 s.e) := HY.out.cell 4
  have ltY := HY.out.lt
  go_wp2_with fail
  refine (encodeOrder_any o _ HO.out).mono ?_
  rintro e w1 ⟨Aw1, cw1, rfl, hown, hb⟩
  have TX := Lib.hid (HX.out.low hb)
  have TY := Lib.hid (HY.out.low hb)
  have TB := Lib.hid (HB.out.trans (hb.mono HB.out.size))
  have HR := Lib.hid (Rd.of_own hown)
  clear x0 x1 x2 x3 x4 y0 y1 y2 y3 y4 ltX ltY
  clear hb hown HX HY HB
  have HX := Lib.hid TX.out
  have HY := Lib.hid TY.out
  have HB := Lib.hid TB.out
  clear TB TX TY
  have x0 : w1.cell? ⟨w.heap.size, 0, none⟩ = some (.int .i64 o.u) := HX.out.cell 0
  have x1 : w1.cell? ⟨w.heap.size, 1, none⟩ = some (.int .i64 o.e) := HX.out.cell 1
  have x2 : w1.cell? ⟨w.heap.size, 2, none⟩ = some (.int .i64 o.k) := HX.out.cell 2
  have x3 : w1.cell? ⟨w.heap.size, 3, none⟩ = some (.int .i64 o.i) := HX.out.cell 3
  have x4 : w1.cell? ⟨w.heap.size, 4, none⟩ = some (.int .i64 o.n) := HX.out.cell 4
  have ltX := HX.out.lt
  have y0 : w1.cell? ⟨w.heap.size + 1, 0, none⟩ = some (.int .i64 s.u) := HY.out.cell 0
  have y1 : w1.cell? ⟨w.heap.size + 1, 1, none⟩ = some (.int .i64 s.q) := HY.out.cell 1
  have y2 : w1.cell? ⟨w.heap.size + 1, 2, none⟩ = some (.int .i64 s.s) := HY.out.cell 2
  have y3 : w1.cell? ⟨w.heap.size + 1, 3, none⟩ = some (.int .i64 s.n) := HY.out.cell 3
  have y4 : w1.cell? ⟨w.heap.size + 1, 4, none⟩ = some (.int .i64 s.e) := HY.out.cell 4
  have ltY := HY.out.lt
  go_wp2_with fail
  refine (decodeOrder_any _ (Or.put o) _ _ HR.out (Or.put_bts o) (by have := HPL.out; omega)).mono ?_
  rw [HOB.out.1, HOB.out.2]
  rintro e w2 ⟨rfl, hb⟩
  have TX := Lib.hid (HX.out.low hb)
  have TY := Lib.hid (HY.out.low hb)
  have TB := Lib.hid (HB.out.trans (hb.mono HB.out.size))
  clear x0 x1 x2 x3 x4 y0 y1 y2 y3 y4 ltX ltY
  clear hb HX HY HB
  have HX := Lib.hid TX.out
  have HY := Lib.hid TY.out
  have HB := Lib.hid TB.out
  clear TB TX TY
  have x0 : w2.cell? ⟨w.heap.size, 0, none⟩ = some (.int .i64 o.u) := HX.out.cell 0
  have x1 : w2.cell? ⟨w.heap.size, 1, none⟩ = some (.int .i64 o.e) := HX.out.cell 1
  have x2 : w2.cell? ⟨w.heap.size, 2, none⟩ = some (.int .i64 o.k) := HX.out.cell 2
  have x3 : w2.cell? ⟨w.heap.size, 3, none⟩ = some (.int .i64 o.i) := HX.out.cell 3
  have x4 : w2.cell? ⟨w.heap.size, 4, none⟩ = some (.int .i64 o.n) := HX.out.cell 4
  have ltX := HX.out.lt
  have y0 : w2.cell? ⟨w.heap.size + 1, 0, none⟩ = some (.int .i64 s.u) := HY.out.cell 0
  have y1 : w2.cell? ⟨w.heap.size + 1, 1, none⟩ = some (.int .i64 s.q) := HY.out.cell 1
  have y2 : w2.cell? ⟨w.heap.size + 1, 2, none⟩ = some (.int .i64 s.s) := HY.out.cell 2
  have y3 : w2.cell? ⟨w.heap.size + 1, 3, none⟩ = some (.int .i64 s.n) := HY.out.cell 3
  have y4 : w2.cell? ⟨w.heap.size + 1, 4, none⟩ = some (.int .i64 s.e) := HY.out.cell 4
  have ltY := HY.out.lt
  clear HR
  go_wp2_with fail
  obtain ⟨bp, hbk⟩ : ∃ b, w2.heap.size = b := ⟨_, rfl⟩
  have HP := Lib.hid (Blk.new' w2 29 #[.int .i64 o.u, .int .i64 o.e, .int .i64 o.k, .int .i64 o.i, .int .i64 o.n] bp hbk)
  have TX := Lib.hid (HX.out.alloc (.cells #[.int .i64 o.u, .int .i64 o.e, .int .i64 o.k, .int .i64 o.i, .int .i64 o.n] 29))
  have TY := Lib.hid (HY.out.alloc (.cells #[.int .i64 o.u, .int .i64 o.e, .int .i64 o.k, .int .i64 o.i, .int .i64 o.n] 29))
  have TB := Lib.hid (HB.out.alloc HB.out.size (.cells #[.int .i64 o.u, .int .i64 o.e, .int .i64 o.k, .int .i64 o.i, .int .i64 o.n] 29))
  clear x0 x1 x2 x3 x4 y0 y1 y2 y3 y4 ltX ltY
  clear HB HX HY
  try rw [hbk]
  obtain ⟨w3, hw⟩ : ∃ w', w2.alloc (.cells #[.int .i64 o.u, .int .i64 o.e, .int .i64 o.k, .int .i64 o.i, .int .i64 o.n] 29) = w' := ⟨_, rfl⟩
  rw [hw] at HP TB TX TY ⊢
  have HX := Lib.hid TX.out
  have HY := Lib.hid TY.out
  have HB := Lib.hid TB.out
  clear TB hw hbk TX TY
  have x0 : w3.cell? ⟨w.heap.size, 0, none⟩ = some (.int .i64 o.u) := HX.out.cell 0
  have x1 : w3.cell? ⟨w.heap.size, 1, none⟩ = some (.int .i64 o.e) := HX.out.cell 1
  have x2 : w3.cell? ⟨w.heap.size, 2, none⟩ = some (.int .i64 o.k) := HX.out.cell 2
  have x3 : w3.cell? ⟨w.heap.size, 3, none⟩ = some (.int .i64 o.i) := HX.out.cell 3
  have x4 : w3.cell? ⟨w.heap.size, 4, none⟩ = some (.int .i64 o.n) := HX.out.cell 4
  have ltX := HX.out.lt
  have y0 : w3.cell? ⟨w.heap.size + 1, 0, none⟩ = some (.int .i64 s.u) := HY.out.cell 0
  have y1 : w3.cell? ⟨w.heap.size + 1, 1, none⟩ = some (.int .i64 s.q) := HY.out.cell 1
  have y2 : w3.cell? ⟨w.heap.size + 1, 2, none⟩ = some (.int .i64 s.s) := HY.out.cell 2
  have y3 : w3.cell? ⟨w.heap.size + 1, 3, none⟩ = some (.int .i64 s.n) := HY.out.cell 3
  have y4 : w3.cell? ⟨w.heap.size + 1, 4, none⟩ = some (.int .i64 s.e) := HY.out.cell 4
  have ltY := HY.out.lt
  have p0 : w3.cell? ⟨bp, 0, none⟩ = some (.int .i64 o.u) := HP.out.cell 0
  have p1 : w3.cell? ⟨bp, 1, none⟩ = some (.int .i64 o.e) := HP.out.cell 1
  have p2 : w3.cell? ⟨bp, 2, none⟩ = some (.int .i64 o.k) := HP.out.cell 2
  have p3 : w3.cell? ⟨bp, 3, none⟩ = some (.int .i64 o.i) := HP.out.cell 3
  have p4 : w3.cell? ⟨bp, 4, none⟩ = some (.int .i64 o.n) := HP.out.cell 4
  have ltP := HP.out.lt
  refine (encodeStatus_any s _ HS64.out).mono ?_
  rintro e w4 ⟨Aw4, cw4, rfl, hown, hb⟩
  have TX := Lib.hid (HX.out.low hb)
  have TY := Lib.hid (HY.out.low hb)
  have TP := Lib.hid (HP.out.low hb)
  have TB := Lib.hid (HB.out.trans (hb.mono HB.out.size))
  have HR := Lib.hid (Rd.of_own hown)
  clear x0 x1 x2 x3 x4 y0 y1 y2 y3 y4 p0 p1 p2 p3 p4 ltX ltY ltP
  clear hb hown HX HY HP HB
  have HX := Lib.hid TX.out
  have HY := Lib.hid TY.out
  have HP := Lib.hid TP.out
  have HB := Lib.hid TB.out
  clear TB TX TY TP
  have x0 : w4.cell? ⟨w.heap.size, 0, none⟩ = some (.int .i64 o.u) := HX.out.cell 0
  have x1 : w4.cell? ⟨w.heap.size, 1, none⟩ = some (.int .i64 o.e) := HX.out.cell 1
  have x2 : w4.cell? ⟨w.heap.size, 2, none⟩ = some (.int .i64 o.k) := HX.out.cell 2
  have x3 : w4.cell? ⟨w.heap.size, 3, none⟩ = some (.int .i64 o.i) := HX.out.cell 3
  have x4 : w4.cell? ⟨w.heap.size, 4, none⟩ = some (.int .i64 o.n) := HX.out.cell 4
  have ltX := HX.out.lt
  have y0 : w4.cell? ⟨w.heap.size + 1, 0, none⟩ = some (.int .i64 s.u) := HY.out.cell 0
  have y1 : w4.cell? ⟨w.heap.size + 1, 1, none⟩ = some (.int .i64 s.q) := HY.out.cell 1
  have y2 : w4.cell? ⟨w.heap.size + 1, 2, none⟩ = some (.int .i64 s.s) := HY.out.cell 2
  have y3 : w4.cell? ⟨w.heap.size + 1, 3, none⟩ = some (.int .i64 s.n) := HY.out.cell 3
  have y4 : w4.cell? ⟨w.heap.size + 1, 4, none⟩ = some (.int .i64 s.e) := HY.out.cell 4
  have ltY := HY.out.lt
  have p0 : w4.cell? ⟨bp, 0, none⟩ = some (.int .i64 o.u) := HP.out.cell 0
  have p1 : w4.cell? ⟨bp, 1, none⟩ = some (.int .i64 o.e) := HP.out.cell 1
  have p2 : w4.cell? ⟨bp, 2, none⟩ = some (.int .i64 o.k) := HP.out.cell 2
  have p3 : w4.cell? ⟨bp, 3, none⟩ = some (.int .i64 o.i) := HP.out.cell 3
  have p4 : w4.cell? ⟨bp, 4, none⟩ = some (.int .i64 o.n) := HP.out.cell 4
  have ltP := HP.out.lt
  go_wp2_with fail
  refine (decodeStatus_any _ (Or.say s) _ _ HR.out (Or.say_bts s) (by have := HSL.out; omega)).mono ?_
  rw [HSB.out.1, HSB.out.2]
  rintro e w5 ⟨rfl, hb⟩
  have TX := Lib.hid (HX.out.low hb)
  have TY := Lib.hid (HY.out.low hb)
  have TP := Lib.hid (HP.out.low hb)
  have TB := Lib.hid (HB.out.trans (hb.mono HB.out.size))
  clear x0 x1 x2 x3 x4 y0 y1 y2 y3 y4 p0 p1 p2 p3 p4 ltX ltY ltP
  clear hb HX HY HP HB
  have HX := Lib.hid TX.out
  have HY := Lib.hid TY.out
  have HP := Lib.hid TP.out
  have HB := Lib.hid TB.out
  clear TB TX TY TP
  have x0 : w5.cell? ⟨w.heap.size, 0, none⟩ = some (.int .i64 o.u) := HX.out.cell 0
  have x1 : w5.cell? ⟨w.heap.size, 1, none⟩ = some (.int .i64 o.e) := HX.out.cell 1
  have x2 : w5.cell? ⟨w.heap.size, 2, none⟩ = some (.int .i64 o.k) := HX.out.cell 2
  have x3 : w5.cell? ⟨w.heap.size, 3, none⟩ = some (.int .i64 o.i) := HX.out.cell 3
  have x4 : w5.cell? ⟨w.heap.size, 4, none⟩ = some (.int .i64 o.n) := HX.out.cell 4
  have ltX := HX.out.lt
  have y0 : w5.cell? ⟨w.heap.size + 1, 0, none⟩ = some (.int .i64 s.u) := HY.out.cell 0
  have y1 : w5.cell? ⟨w.heap.size + 1, 1, none⟩ = some (.int .i64 s.q) := HY.out.cell 1
  have y2 : w5.cell? ⟨w.heap.size + 1, 2, none⟩ = some (.int .i64 s.s) := HY.out.cell 2
  have y3 : w5.cell? ⟨w.heap.size + 1, 3, none⟩ = some (.int .i64 s.n) := HY.out.cell 3
  have y4 : w5.cell? ⟨w.heap.size + 1, 4, none⟩ = some (.int .i64 s.e) := HY.out.cell 4
  have ltY := HY.out.lt
  have p0 : w5.cell? ⟨bp, 0, none⟩ = some (.int .i64 o.u) := HP.out.cell 0
  have p1 : w5.cell? ⟨bp, 1, none⟩ = some (.int .i64 o.e) := HP.out.cell 1
  have p2 : w5.cell? ⟨bp, 2, none⟩ = some (.int .i64 o.k) := HP.out.cell 2
  have p3 : w5.cell? ⟨bp, 3, none⟩ = some (.int .i64 o.i) := HP.out.cell 3
  have p4 : w5.cell? ⟨bp, 4, none⟩ = some (.int .i64 o.n) := HP.out.cell 4
  have ltP := HP.out.lt
  clear HR
  go_wp2_with fail
  obtain ⟨bq, hbk⟩ : ∃ b, w5.heap.size = b := ⟨_, rfl⟩
  have HQ := Lib.hid (Blk.new' w5 45 #[.int .i64 0, .int .i64 0, .int .i64 0, .int .i64 0, .int .i64 0] bq hbk)
  have TX := Lib.hid (HX.out.alloc (.cells #[.int .i64 0, .int .i64 0, .int .i64 0, .int .i64 0, .int .i64 0] 45))
  have TY := Lib.hid (HY.out.alloc (.cells #[.int .i64 0, .int .i64 0, .int .i64 0, .int .i64 0, .int .i64 0] 45))
  have TP := Lib.hid (HP.out.alloc (.cells #[.int .i64 0, .int .i64 0, .int .i64 0, .int .i64 0, .int .i64 0] 45))
  have TB := Lib.hid (HB.out.alloc HB.out.size (.cells #[.int .i64 0, .int .i64 0, .int .i64 0, .int .i64 0, .int .i64 0] 45))
  clear x0 x1 x2 x3 x4 y0 y1 y2 y3 y4 p0 p1 p2 p3 p4 ltX ltY ltP
  clear HB HX HY HP
  try rw [hbk]
  obtain ⟨w6, hw⟩ : ∃ w', w5.alloc (.cells #[.int .i64 0, .int .i64 0, .int .i64 0, .int .i64 0, .int .i64 0] 45) = w' := ⟨_, rfl⟩
  rw [hw] at HQ TB TX TY TP ⊢
  have HX := Lib.hid TX.out
  have HY := Lib.hid TY.out
  have HP := Lib.hid TP.out
  have HB := Lib.hid TB.out
  clear TB hw hbk TX TY TP
  have x0 : w6.cell? ⟨w.heap.size, 0, none⟩ = some (.int .i64 o.u) := HX.out.cell 0
  have x1 : w6.cell? ⟨w.heap.size, 1, none⟩ = some (.int .i64 o.e) := HX.out.cell 1
  have x2 : w6.cell? ⟨w.heap.size, 2, none⟩ = some (.int .i64 o.k) := HX.out.cell 2
  have x3 : w6.cell? ⟨w.heap.size, 3, none⟩ = some (.int .i64 o.i) := HX.out.cell 3
  have x4 : w6.cell? ⟨w.heap.size, 4, none⟩ = some (.int .i64 o.n) := HX.out.cell 4
  have ltX := HX.out.lt
  have y0 : w6.cell? ⟨w.heap.size + 1, 0, none⟩ = some (.int .i64 s.u) := HY.out.cell 0
  have y1 : w6.cell? ⟨w.heap.size + 1, 1, none⟩ = some (.int .i64 s.q) := HY.out.cell 1
  have y2 : w6.cell? ⟨w.heap.size + 1, 2, none⟩ = some (.int .i64 s.s) := HY.out.cell 2
  have y3 : w6.cell? ⟨w.heap.size + 1, 3, none⟩ = some (.int .i64 s.n) := HY.out.cell 3
  have y4 : w6.cell? ⟨w.heap.size + 1, 4, none⟩ = some (.int .i64 s.e) := HY.out.cell 4
  have ltY := HY.out.lt
  have p0 : w6.cell? ⟨bp, 0, none⟩ = some (.int .i64 o.u) := HP.out.cell 0
  have p1 : w6.cell? ⟨bp, 1, none⟩ = some (.int .i64 o.e) := HP.out.cell 1
  have p2 : w6.cell? ⟨bp, 2, none⟩ = some (.int .i64 o.k) := HP.out.cell 2
  have p3 : w6.cell? ⟨bp, 3, none⟩ = some (.int .i64 o.i) := HP.out.cell 3
  have p4 : w6.cell? ⟨bp, 4, none⟩ = some (.int .i64 o.n) := HP.out.cell 4
  have ltP := HP.out.lt
  have q0 : w6.cell? ⟨bq, 0, none⟩ = some (.int .i64 0) := HQ.out.cell 0
  have q1 : w6.cell? ⟨bq, 1, none⟩ = some (.int .i64 0) := HQ.out.cell 1
  have q2 : w6.cell? ⟨bq, 2, none⟩ = some (.int .i64 0) := HQ.out.cell 2
  have q3 : w6.cell? ⟨bq, 3, none⟩ = some (.int .i64 0) := HQ.out.cell 3
  have q4 : w6.cell? ⟨bq, 4, none⟩ = some (.int .i64 0) := HQ.out.cell 4
  have ltQ := HQ.out.lt
  refine (valid_any o _).mono ?_
  rw [HV.out]
  rintro e w7 ⟨rfl, hb⟩
  have TX := Lib.hid (HX.out.low hb)
  have TY := Lib.hid (HY.out.low hb)
  have TP := Lib.hid (HP.out.low hb)
  have TQ := Lib.hid (HQ.out.low hb)
  have TB := Lib.hid (HB.out.trans (hb.mono HB.out.size))
  clear x0 x1 x2 x3 x4 y0 y1 y2 y3 y4 p0 p1 p2 p3 p4 q0 q1 q2 q3 q4 ltX ltY ltP ltQ
  clear hb HX HY HP HQ HB
  have HX := Lib.hid TX.out
  have HY := Lib.hid TY.out
  have HP := Lib.hid TP.out
  have HQ := Lib.hid TQ.out
  have HB := Lib.hid TB.out
  clear TB TX TY TP TQ
  have x0 : w7.cell? ⟨w.heap.size, 0, none⟩ = some (.int .i64 o.u) := HX.out.cell 0
  have x1 : w7.cell? ⟨w.heap.size, 1, none⟩ = some (.int .i64 o.e) := HX.out.cell 1
  have x2 : w7.cell? ⟨w.heap.size, 2, none⟩ = some (.int .i64 o.k) := HX.out.cell 2
  have x3 : w7.cell? ⟨w.heap.size, 3, none⟩ = some (.int .i64 o.i) := HX.out.cell 3
  have x4 : w7.cell? ⟨w.heap.size, 4, none⟩ = some (.int .i64 o.n) := HX.out.cell 4
  have ltX := HX.out.lt
  have y0 : w7.cell? ⟨w.heap.size + 1, 0, none⟩ = some (.int .i64 s.u) := HY.out.cell 0
  have y1 : w7.cell? ⟨w.heap.size + 1, 1, none⟩ = some (.int .i64 s.q) := HY.out.cell 1
  have y2 : w7.cell? ⟨w.heap.size + 1, 2, none⟩ = some (.int .i64 s.s) := HY.out.cell 2
  have y3 : w7.cell? ⟨w.heap.size + 1, 3, none⟩ = some (.int .i64 s.n) := HY.out.cell 3
  have y4 : w7.cell? ⟨w.heap.size + 1, 4, none⟩ = some (.int .i64 s.e) := HY.out.cell 4
  have ltY := HY.out.lt
  have p0 : w7.cell? ⟨bp, 0, none⟩ = some (.int .i64 o.u) := HP.out.cell 0
  have p1 : w7.cell? ⟨bp, 1, none⟩ = some (.int .i64 o.e) := HP.out.cell 1
  have p2 : w7.cell? ⟨bp, 2, none⟩ = some (.int .i64 o.k) := HP.out.cell 2
  have p3 : w7.cell? ⟨bp, 3, none⟩ = some (.int .i64 o.i) := HP.out.cell 3
  have p4 : w7.cell? ⟨bp, 4, none⟩ = some (.int .i64 o.n) := HP.out.cell 4
  have ltP := HP.out.lt
  have q0 : w7.cell? ⟨bq, 0, none⟩ = some (.int .i64 0) := HQ.out.cell 0
  have q1 : w7.cell? ⟨bq, 1, none⟩ = some (.int .i64 0) := HQ.out.cell 1
  have q2 : w7.cell? ⟨bq, 2, none⟩ = some (.int .i64 0) := HQ.out.cell 2
  have q3 : w7.cell? ⟨bq, 3, none⟩ = some (.int .i64 0) := HQ.out.cell 3
  have q4 : w7.cell? ⟨bq, 4, none⟩ = some (.int .i64 0) := HQ.out.cell 4
  have ltQ := HQ.out.lt
  go_wp2_with fail
  refine (encodeStatus_any s _ HS64.out).mono ?_
  rintro e w9 ⟨Aw9, cw9, rfl, hown, hb⟩
  have TX := Lib.hid (HX.out.low hb)
  have TY := Lib.hid (HY.out.low hb)
  have TP := Lib.hid (HP.out.low hb)
  have TQ := Lib.hid (HQ.out.low hb)
  have TB := Lib.hid (HB.out.trans (hb.mono HB.out.size))
  have HR := Lib.hid (Rd.of_own hown)
  clear x0 x1 x2 x3 x4 y0 y1 y2 y3 y4 p0 p1 p2 p3 p4 q0 q1 q2 q3 q4 ltX ltY ltP ltQ
  clear hb hown HX HY HP HQ HB
  have HX := Lib.hid TX.out
  have HY := Lib.hid TY.out
  have HP := Lib.hid TP.out
  have HQ := Lib.hid TQ.out
  have HB := Lib.hid TB.out
  clear TB TX TY TP TQ
  have x0 : w9.cell? ⟨w.heap.size, 0, none⟩ = some (.int .i64 o.u) := HX.out.cell 0
  have x1 : w9.cell? ⟨w.heap.size, 1, none⟩ = some (.int .i64 o.e) := HX.out.cell 1
  have x2 : w9.cell? ⟨w.heap.size, 2, none⟩ = some (.int .i64 o.k) := HX.out.cell 2
  have x3 : w9.cell? ⟨w.heap.size, 3, none⟩ = some (.int .i64 o.i) := HX.out.cell 3
  have x4 : w9.cell? ⟨w.heap.size, 4, none⟩ = some (.int .i64 o.n) := HX.out.cell 4
  have ltX := HX.out.lt
  have y0 : w9.cell? ⟨w.heap.size + 1, 0, none⟩ = some (.int .i64 s.u) := HY.out.cell 0
  have y1 : w9.cell? ⟨w.heap.size + 1, 1, none⟩ = some (.int .i64 s.q) := HY.out.cell 1
  have y2 : w9.cell? ⟨w.heap.size + 1, 2, none⟩ = some (.int .i64 s.s) := HY.out.cell 2
  have y3 : w9.cell? ⟨w.heap.size + 1, 3, none⟩ = some (.int .i64 s.n) := HY.out.cell 3
  have y4 : w9.cell? ⟨w.heap.size + 1, 4, none⟩ = some (.int .i64 s.e) := HY.out.cell 4
  have ltY := HY.out.lt
  have p0 : w9.cell? ⟨bp, 0, none⟩ = some (.int .i64 o.u) := HP.out.cell 0
  have p1 : w9.cell? ⟨bp, 1, none⟩ = some (.int .i64 o.e) := HP.out.cell 1
  have p2 : w9.cell? ⟨bp, 2, none⟩ = some (.int .i64 o.k) := HP.out.cell 2
  have p3 : w9.cell? ⟨bp, 3, none⟩ = some (.int .i64 o.i) := HP.out.cell 3
  have p4 : w9.cell? ⟨bp, 4, none⟩ = some (.int .i64 o.n) := HP.out.cell 4
  have ltP := HP.out.lt
  have q0 : w9.cell? ⟨bq, 0, none⟩ = some (.int .i64 0) := HQ.out.cell 0
  have q1 : w9.cell? ⟨bq, 1, none⟩ = some (.int .i64 0) := HQ.out.cell 1
  have q2 : w9.cell? ⟨bq, 2, none⟩ = some (.int .i64 0) := HQ.out.cell 2
  have q3 : w9.cell? ⟨bq, 3, none⟩ = some (.int .i64 0) := HQ.out.cell 3
  have q4 : w9.cell? ⟨bq, 4, none⟩ = some (.int .i64 0) := HQ.out.cell 4
  have ltQ := HQ.out.lt
  rw [HS0.out]
  clear HR
  go_wp2
  go_ret
  exact ⟨ret_bool (by simp), HB.out⟩
set_option maxRecDepth 100000 in
set_option maxHeartbeats 1000000 in
theorem roundTrips_FT (o : Or.O) (s : Or.S) (w : World) (ho : Or.O64 o) (hs : Or.S64 s) (hv : Or.valid o = false) (hf : Or.fit s = true) :
    Calls Try.prog 8 #[.agg #[.int .i64 o.u, .int .i64 o.e, .int .i64 o.k, .int .i64 o.i, .int .i64 o.n], .agg #[.int .i64 s.u, .int .i64 s.q, .int .i64 s.s, .int .i64 s.n, .int .i64 s.e]] w fun e w' => e = .returned (.bool true) ∧ Below w.heap.size w w' := by
  have HOB := Lib.hid (show Or.decO (Or.put o) = ⟨0, 0, 0, 0, 0⟩ ∧ Or.decE (Or.okO (Or.put o)) = 2 by obtain ⟨_, h1, h2⟩ := Or.bad_put hv; rw [h1, h2]; exact ⟨rfl, rfl⟩)
  have HSB := Lib.hid (show Or.decS (Or.say s) = ⟨s.u, s.q, s.s, s.n, s.e⟩ ∧ Or.decE (Or.okS (Or.say s)) = 0 by obtain ⟨h1, h2⟩ := Or.ok_say hs hf; rw [h1, h2]; exact ⟨rfl, rfl⟩)
  have HPL := Lib.hid (Or.put_len ho)
  have HSL := Lib.hid (Or.say_len hs)
  have HP0 := Lib.hid (show (Or.put o).length = 0 by rw [(Or.bad_put hv).1]; rfl)
  have hS0 : (((Or.say s).length : Int) == 0) = false := by have := Or.say_pos hf; rw [beq_eq_false_iff_ne]; omega
  have HO := Lib.hid ho
  have HS64 := Lib.hid hs
  have HV := Lib.hid hv
  have HX := Lib.hid ((Blk.new w 29 #[.int .i64 o.u, .int .i64 o.e, .int .i64 o.k, .int .i64 o.i, .int .i64 o.n]).alloc (.cells #[.int .i64 s.u, .int .i64 s.q, .int .i64 s.s, .int .i64 s.n, .int .i64 s.e] 45))
  have HY := Lib.hid (Blk.new' (w.alloc (.cells #[.int .i64 o.u, .int .i64 o.e, .int .i64 o.k, .int .i64 o.i, .int .i64 o.n] 29)) 45 #[.int .i64 s.u, .int .i64 s.q, .int .i64 s.s, .int .i64 s.n, .int .i64 s.e] (w.heap.size + 1) (by simp))
  have hal := (Below.refl w.heap.size w).alloc (Nat.le_refl _) (.cells #[.int .i64 o.u, .int .i64 o.e, .int .i64 o.k, .int .i64 o.i, .int .i64 o.n] 29)
  have HB := Lib.hid (hal.alloc hal.size (.cells #[.int .i64 s.u, .int .i64 s.q, .int .i64 s.s, .int .i64 s.n, .int .i64 s.e] 45))
  clear ho hs hal hv hf
  go_enter Try.func8, Try.ntmps8
  go_wp2_with fail
  refine (alive_any _).mono ?_
  rintro e w0 ⟨rfl, hb⟩
  have TX := Lib.hid (HX.out.low hb)
  have TY := Lib.hid (HY.out.low hb)
  have TB := Lib.hid (HB.out.trans (hb.mono HB.out.size))
  clear hb HX HY HB
  have HX := Lib.hid TX.out
  have HY := Lib.hid TY.out
  have HB := Lib.hid TB.out
  clear TB TX TY
  have x0 : w0.cell? ⟨w.heap.size, 0, none⟩ = some (.int .i64 o.u) := HX.out.cell 0
  have x1 : w0.cell? ⟨w.heap.size, 1, none⟩ = some (.int .i64 o.e) := HX.out.cell 1
  have x2 : w0.cell? ⟨w.heap.size, 2, none⟩ = some (.int .i64 o.k) := HX.out.cell 2
  have x3 : w0.cell? ⟨w.heap.size, 3, none⟩ = some (.int .i64 o.i) := HX.out.cell 3
  have x4 : w0.cell? ⟨w.heap.size, 4, none⟩ = some (.int .i64 o.n) := HX.out.cell 4
  have ltX := HX.out.lt
  have y0 : w0.cell? ⟨w.heap.size + 1, 0, none⟩ = some (.int .i64 s.u) := HY.out.cell 0
  have y1 : w0.cell? ⟨w.heap.size + 1, 1, none⟩ = some (.int .i64 s.q) := HY.out.cell 1
  have y2 : w0.cell? ⟨w.heap.size + 1, 2, none⟩ = some (.int .i64 s.s) := HY.out.cell 2
  have y3 : w0.cell? ⟨w.heap.size + 1, 3, none⟩ = some (.int .i64 s.n) := HY.out.cell 3
  have y4 : w0.cell? ⟨w.heap.size + 1, 4, none⟩ = some (.int .i64 s.e) := HY.out.cell 4
  have ltY := HY.out.lt
  go_wp2_with fail
  refine (encodeOrder_any o _ HO.out).mono ?_
  rintro e w1 ⟨Aw1, cw1, rfl, hown, hb⟩
  have TX := Lib.hid (HX.out.low hb)
  have TY := Lib.hid (HY.out.low hb)
  have TB := Lib.hid (HB.out.trans (hb.mono HB.out.size))
  have HR := Lib.hid (Rd.of_own hown)
  clear x0 x1 x2 x3 x4 y0 y1 y2 y3 y4 ltX ltY
  clear hb hown HX HY HB
  have HX := Lib.hid TX.out
  have HY := Lib.hid TY.out
  have HB := Lib.hid TB.out
  clear TB TX TY
  have x0 : w1.cell? ⟨w.heap.size, 0, none⟩ = some (.int .i64 o.u) := HX.out.cell 0
  have x1 : w1.cell? ⟨w.heap.size, 1, none⟩ = some (.int .i64 o.e) := HX.out.cell 1
  have x2 : w1.cell? ⟨w.heap.size, 2, none⟩ = some (.int .i64 o.k) := HX.out.cell 2
  have x3 : w1.cell? ⟨w.heap.size, 3, none⟩ = some (.int .i64 o.i) := HX.out.cell 3
  have x4 : w1.cell? ⟨w.heap.size, 4, none⟩ = some (.int .i64 o.n) := HX.out.cell 4
  have ltX := HX.out.lt
  have y0 : w1.cell? ⟨w.heap.size + 1, 0, none⟩ = some (.int .i64 s.u) := HY.out.cell 0
  have y1 : w1.cell? ⟨w.heap.size + 1, 1, none⟩ = some (.int .i64 s.q) := HY.out.cell 1
  have y2 : w1.cell? ⟨w.heap.size + 1, 2, none⟩ = some (.int .i64 s.s) := HY.out.cell 2
  have y3 : w1.cell? ⟨w.heap.size + 1, 3, none⟩ = some (.int .i64 s.n) := HY.out.cell 3
  have y4 : w1.cell? ⟨w.heap.size + 1, 4, none⟩ = some (.int .i64 s.e) := HY.out.cell 4
  have ltY := HY.out.lt
  go_wp2_with fail
  refine (decodeOrder_any _ (Or.put o) _ _ HR.out (Or.put_bts o) (by have := HPL.out; omega)).mono ?_
  rw [HOB.out.1, HOB.out.2]
  rintro e w2 ⟨rfl, hb⟩
  have TX := Lib.hid (HX.out.low hb)
  have TY := Lib.hid (HY.out.low hb)
  have TB := Lib.hid (HB.out.trans (hb.mono HB.out.size))
  clear x0 x1 x2 x3 x4 y0 y1 y2 y3 y4 ltX ltY
  clear hb HX HY HB
  have HX := Lib.hid TX.out
  have HY := Lib.hid TY.out
  have HB := Lib.hid TB.out
  clear TB TX TY
  have x0 : w2.cell? ⟨w.heap.size, 0, none⟩ = some (.int .i64 o.u) := HX.out.cell 0
  have x1 : w2.cell? ⟨w.heap.size, 1, none⟩ = some (.int .i64 o.e) := HX.out.cell 1
  have x2 : w2.cell? ⟨w.heap.size, 2, none⟩ = some (.int .i64 o.k) := HX.out.cell 2
  have x3 : w2.cell? ⟨w.heap.size, 3, none⟩ = some (.int .i64 o.i) := HX.out.cell 3
  have x4 : w2.cell? ⟨w.heap.size, 4, none⟩ = some (.int .i64 o.n) := HX.out.cell 4
  have ltX := HX.out.lt
  have y0 : w2.cell? ⟨w.heap.size + 1, 0, none⟩ = some (.int .i64 s.u) := HY.out.cell 0
  have y1 : w2.cell? ⟨w.heap.size + 1, 1, none⟩ = some (.int .i64 s.q) := HY.out.cell 1
  have y2 : w2.cell? ⟨w.heap.size + 1, 2, none⟩ = some (.int .i64 s.s) := HY.out.cell 2
  have y3 : w2.cell? ⟨w.heap.size + 1, 3, none⟩ = some (.int .i64 s.n) := HY.out.cell 3
  have y4 : w2.cell? ⟨w.heap.size + 1, 4, none⟩ = some (.int .i64 s.e) := HY.out.cell 4
  have ltY := HY.out.lt
  clear HR
  go_wp2_with fail
  obtain ⟨bp, hbk⟩ : ∃ b, w2.heap.size = b := ⟨_, rfl⟩
  have HP := Lib.hid (Blk.new' w2 29 #[.int .i64 0, .int .i64 0, .int .i64 0, .int .i64 0, .int .i64 0] bp hbk)
  have TX := Lib.hid (HX.out.alloc (.cells #[.int .i64 0, .int .i64 0, .int .i64 0, .int .i64 0, .int .i64 0] 29))
  have TY := Lib.hid (HY.out.alloc (.cells #[.int .i64 0, .int .i64 0, .int .i64 0, .int .i64 0, .int .i64 0] 29))
  have TB := Lib.hid (HB.out.alloc HB.out.size (.cells #[.int .i64 0, .int .i64 0, .int .i64 0, .int .i64 0, .int .i64 0] 29))
  clear x0 x1 x2 x3 x4 y0 y1 y2 y3 y4 ltX ltY
  clear HB HX HY
  try rw [hbk]
  obtain ⟨w3, hw⟩ : ∃ w', w2.alloc (.cells #[.int .i64 0, .int .i64 0, .int .i64 0, .int .i64 0, .int .i64 0] 29) = w' := ⟨_, rfl⟩
  rw [hw] at HP TB TX TY ⊢
  have HX := Lib.hid TX.out
  have HY := Lib.hid TY.out
  have HB := Lib.hid TB.out
  clear TB hw hbk TX TY
  have x0 : w3.cell? ⟨w.heap.size, 0, none⟩ = some (.int .i64 o.u) := HX.out.cell 0
  have x1 : w3.cell? ⟨w.heap.size, 1, none⟩ = some (.int .i64 o.e) := HX.out.cell 1
  have x2 : w3.cell? ⟨w.heap.size, 2, none⟩ = some (.int .i64 o.k) := HX.out.cell 2
  have x3 : w3.cell? ⟨w.heap.size, 3, none⟩ = some (.int .i64 o.i) := HX.out.cell 3
  have x4 : w3.cell? ⟨w.heap.size, 4, none⟩ = some (.int .i64 o.n) := HX.out.cell 4
  have ltX := HX.out.lt
  have y0 : w3.cell? ⟨w.heap.size + 1, 0, none⟩ = some (.int .i64 s.u) := HY.out.cell 0
  have y1 : w3.cell? ⟨w.heap.size + 1, 1, none⟩ = some (.int .i64 s.q) := HY.out.cell 1
  have y2 : w3.cell? ⟨w.heap.size + 1, 2, none⟩ = some (.int .i64 s.s) := HY.out.cell 2
  have y3 : w3.cell? ⟨w.heap.size + 1, 3, none⟩ = some (.int .i64 s.n) := HY.out.cell 3
  have y4 : w3.cell? ⟨w.heap.size + 1, 4, none⟩ = some (.int .i64 s.e) := HY.out.cell 4
  have ltY := HY.out.lt
  have p0 : w3.cell? ⟨bp, 0, none⟩ = some (.int .i64 0) := HP.out.cell 0
  have p1 : w3.cell? ⟨bp, 1, none⟩ = some (.int .i64 0) := HP.out.cell 1
  have p2 : w3.cell? ⟨bp, 2, none⟩ = some (.int .i64 0) := HP.out.cell 2
  have p3 : w3.cell? ⟨bp, 3, none⟩ = some (.int .i64 0) := HP.out.cell 3
  have p4 : w3.cell? ⟨bp, 4, none⟩ = some (.int .i64 0) := HP.out.cell 4
  have ltP := HP.out.lt
  refine (encodeStatus_any s _ HS64.out).mono ?_
  rintro e w4 ⟨Aw4, cw4, rfl, hown, hb⟩
  have TX := Lib.hid (HX.out.low hb)
  have TY := Lib.hid (HY.out.low hb)
  have TP := Lib.hid (HP.out.low hb)
  have TB := Lib.hid (HB.out.trans (hb.mono HB.out.size))
  have HR := Lib.hid (Rd.of_own hown)
  clear x0 x1 x2 x3 x4 y0 y1 y2 y3 y4 p0 p1 p2 p3 p4 ltX ltY ltP
  clear hb hown HX HY HP HB
  have HX := Lib.hid TX.out
  have HY := Lib.hid TY.out
  have HP := Lib.hid TP.out
  have HB := Lib.hid TB.out
  clear TB TX TY TP
  have x0 : w4.cell? ⟨w.heap.size, 0, none⟩ = some (.int .i64 o.u) := HX.out.cell 0
  have x1 : w4.cell? ⟨w.heap.size, 1, none⟩ = some (.int .i64 o.e) := HX.out.cell 1
  have x2 : w4.cell? ⟨w.heap.size, 2, none⟩ = some (.int .i64 o.k) := HX.out.cell 2
  have x3 : w4.cell? ⟨w.heap.size, 3, none⟩ = some (.int .i64 o.i) := HX.out.cell 3
  have x4 : w4.cell? ⟨w.heap.size, 4, none⟩ = some (.int .i64 o.n) := HX.out.cell 4
  have ltX := HX.out.lt
  have y0 : w4.cell? ⟨w.heap.size + 1, 0, none⟩ = some (.int .i64 s.u) := HY.out.cell 0
  have y1 : w4.cell? ⟨w.heap.size + 1, 1, none⟩ = some (.int .i64 s.q) := HY.out.cell 1
  have y2 : w4.cell? ⟨w.heap.size + 1, 2, none⟩ = some (.int .i64 s.s) := HY.out.cell 2
  have y3 : w4.cell? ⟨w.heap.size + 1, 3, none⟩ = some (.int .i64 s.n) := HY.out.cell 3
  have y4 : w4.cell? ⟨w.heap.size + 1, 4, none⟩ = some (.int .i64 s.e) := HY.out.cell 4
  have ltY := HY.out.lt
  have p0 : w4.cell? ⟨bp, 0, none⟩ = some (.int .i64 0) := HP.out.cell 0
  have p1 : w4.cell? ⟨bp, 1, none⟩ = some (.int .i64 0) := HP.out.cell 1
  have p2 : w4.cell? ⟨bp, 2, none⟩ = some (.int .i64 0) := HP.out.cell 2
  have p3 : w4.cell? ⟨bp, 3, none⟩ = some (.int .i64 0) := HP.out.cell 3
  have p4 : w4.cell? ⟨bp, 4, none⟩ = some (.int .i64 0) := HP.out.cell 4
  have ltP := HP.out.lt
  go_wp2_with fail
  refine (decodeStatus_any _ (Or.say s) _ _ HR.out (Or.say_bts s) (by have := HSL.out; omega)).mono ?_
  rw [HSB.out.1, HSB.out.2]
  rintro e w5 ⟨rfl, hb⟩
  have TX := Lib.hid (HX.out.low hb)
  have TY := Lib.hid (HY.out.low hb)
  have TP := Lib.hid (HP.out.low hb)
  have TB := Lib.hid (HB.out.trans (hb.mono HB.out.size))
  clear x0 x1 x2 x3 x4 y0 y1 y2 y3 y4 p0 p1 p2 p3 p4 ltX ltY ltP
  clear hb HX HY HP HB
  have HX := Lib.hid TX.out
  have HY := Lib.hid TY.out
  have HP := Lib.hid TP.out
  have HB := Lib.hid TB.out
  clear TB TX TY TP
  have x0 : w5.cell? ⟨w.heap.size, 0, none⟩ = some (.int .i64 o.u) := HX.out.cell 0
  have x1 : w5.cell? ⟨w.heap.size, 1, none⟩ = some (.int .i64 o.e) := HX.out.cell 1
  have x2 : w5.cell? ⟨w.heap.size, 2, none⟩ = some (.int .i64 o.k) := HX.out.cell 2
  have x3 : w5.cell? ⟨w.heap.size, 3, none⟩ = some (.int .i64 o.i) := HX.out.cell 3
  have x4 : w5.cell? ⟨w.heap.size, 4, none⟩ = some (.int .i64 o.n) := HX.out.cell 4
  have ltX := HX.out.lt
  have y0 : w5.cell? ⟨w.heap.size + 1, 0, none⟩ = some (.int .i64 s.u) := HY.out.cell 0
  have y1 : w5.cell? ⟨w.heap.size + 1, 1, none⟩ = some (.int .i64 s.q) := HY.out.cell 1
  have y2 : w5.cell? ⟨w.heap.size + 1, 2, none⟩ = some (.int .i64 s.s) := HY.out.cell 2
  have y3 : w5.cell? ⟨w.heap.size + 1, 3, none⟩ = some (.int .i64 s.n) := HY.out.cell 3
  have y4 : w5.cell? ⟨w.heap.size + 1, 4, none⟩ = some (.int .i64 s.e) := HY.out.cell 4
  have ltY := HY.out.lt
  have p0 : w5.cell? ⟨bp, 0, none⟩ = some (.int .i64 0) := HP.out.cell 0
  have p1 : w5.cell? ⟨bp, 1, none⟩ = some (.int .i64 0) := HP.out.cell 1
  have p2 : w5.cell? ⟨bp, 2, none⟩ = some (.int .i64 0) := HP.out.cell 2
  have p3 : w5.cell? ⟨bp, 3, none⟩ = some (.int .i64 0) := HP.out.cell 3
  have p4 : w5.cell? ⟨bp, 4, none⟩ = some (.int .i64 0) := HP.out.cell 4
  have ltP := HP.out.lt
  clear HR
  go_wp2_with fail
  obtain ⟨bq, hbk⟩ : ∃ b, w5.heap.size = b := ⟨_, rfl⟩
  have HQ := Lib.hid (Blk.new' w5 45 #[.int .i64 s.u, .int .i64 s.q, .int .i64 s.s, .int .i64 s.n, .int .i64 s.e] bq hbk)
  have TX := Lib.hid (HX.out.alloc (.cells #[.int .i64 s.u, .int .i64 s.q, .int .i64 s.s, .int .i64 s.n, .int .i64 s.e] 45))
  have TY := Lib.hid (HY.out.alloc (.cells #[.int .i64 s.u, .int .i64 s.q, .int .i64 s.s, .int .i64 s.n, .int .i64 s.e] 45))
  have TP := Lib.hid (HP.out.alloc (.cells #[.int .i64 s.u, .int .i64 s.q, .int .i64 s.s, .int .i64 s.n, .int .i64 s.e] 45))
  have TB := Lib.hid (HB.out.alloc HB.out.size (.cells #[.int .i64 s.u, .int .i64 s.q, .int .i64 s.s, .int .i64 s.n, .int .i64 s.e] 45))
  clear x0 x1 x2 x3 x4 y0 y1 y2 y3 y4 p0 p1 p2 p3 p4 ltX ltY ltP
  clear HB HX HY HP
  try rw [hbk]
  obtain ⟨w6, hw⟩ : ∃ w', w5.alloc (.cells #[.int .i64 s.u, .int .i64 s.q, .int .i64 s.s, .int .i64 s.n, .int .i64 s.e] 45) = w' := ⟨_, rfl⟩
  rw [hw] at HQ TB TX TY TP ⊢
  have HX := Lib.hid TX.out
  have HY := Lib.hid TY.out
  have HP := Lib.hid TP.out
  have HB := Lib.hid TB.out
  clear TB hw hbk TX TY TP
  have x0 : w6.cell? ⟨w.heap.size, 0, none⟩ = some (.int .i64 o.u) := HX.out.cell 0
  have x1 : w6.cell? ⟨w.heap.size, 1, none⟩ = some (.int .i64 o.e) := HX.out.cell 1
  have x2 : w6.cell? ⟨w.heap.size, 2, none⟩ = some (.int .i64 o.k) := HX.out.cell 2
  have x3 : w6.cell? ⟨w.heap.size, 3, none⟩ = some (.int .i64 o.i) := HX.out.cell 3
  have x4 : w6.cell? ⟨w.heap.size, 4, none⟩ = some (.int .i64 o.n) := HX.out.cell 4
  have ltX := HX.out.lt
  have y0 : w6.cell? ⟨w.heap.size + 1, 0, none⟩ = some (.int .i64 s.u) := HY.out.cell 0
  have y1 : w6.cell? ⟨w.heap.size + 1, 1, none⟩ = some (.int .i64 s.q) := HY.out.cell 1
  have y2 : w6.cell? ⟨w.heap.size + 1, 2, none⟩ = some (.int .i64 s.s) := HY.out.cell 2
  have y3 : w6.cell? ⟨w.heap.size + 1, 3, none⟩ = some (.int .i64 s.n) := HY.out.cell 3
  have y4 : w6.cell? ⟨w.heap.size + 1, 4, none⟩ = some (.int .i64 s.e) := HY.out.cell 4
  have ltY := HY.out.lt
  have p0 : w6.cell? ⟨bp, 0, none⟩ = some (.int .i64 0) := HP.out.cell 0
  have p1 : w6.cell? ⟨bp, 1, none⟩ = some (.int .i64 0) := HP.out.cell 1
  have p2 : w6.cell? ⟨bp, 2, none⟩ = some (.int .i64 0) := HP.out.cell 2
  have p3 : w6.cell? ⟨bp, 3, none⟩ = some (.int .i64 0) := HP.out.cell 3
  have p4 : w6.cell? ⟨bp, 4, none⟩ = some (.int .i64 0) := HP.out.cell 4
  have ltP := HP.out.lt
  have q0 : w6.cell? ⟨bq, 0, none⟩ = some (.int .i64 s.u) := HQ.out.cell 0
  have q1 : w6.cell? ⟨bq, 1, none⟩ = some (.int .i64 s.q) := HQ.out.cell 1
  have q2 : w6.cell? ⟨bq, 2, none⟩ = some (.int .i64 s.s) := HQ.out.cell 2
  have q3 : w6.cell? ⟨bq, 3, none⟩ = some (.int .i64 s.n) := HQ.out.cell 3
  have q4 : w6.cell? ⟨bq, 4, none⟩ = some (.int .i64 s.e) := HQ.out.cell 4
  have ltQ := HQ.out.lt
  refine (valid_any o _).mono ?_
  rw [HV.out]
  rintro e w7 ⟨rfl, hb⟩
  have TX := Lib.hid (HX.out.low hb)
  have TY := Lib.hid (HY.out.low hb)
  have TP := Lib.hid (HP.out.low hb)
  have TQ := Lib.hid (HQ.out.low hb)
  have TB := Lib.hid (HB.out.trans (hb.mono HB.out.size))
  clear x0 x1 x2 x3 x4 y0 y1 y2 y3 y4 p0 p1 p2 p3 p4 q0 q1 q2 q3 q4 ltX ltY ltP ltQ
  clear hb HX HY HP HQ HB
  have HX := Lib.hid TX.out
  have HY := Lib.hid TY.out
  have HP := Lib.hid TP.out
  have HQ := Lib.hid TQ.out
  have HB := Lib.hid TB.out
  clear TB TX TY TP TQ
  have x0 : w7.cell? ⟨w.heap.size, 0, none⟩ = some (.int .i64 o.u) := HX.out.cell 0
  have x1 : w7.cell? ⟨w.heap.size, 1, none⟩ = some (.int .i64 o.e) := HX.out.cell 1
  have x2 : w7.cell? ⟨w.heap.size, 2, none⟩ = some (.int .i64 o.k) := HX.out.cell 2
  have x3 : w7.cell? ⟨w.heap.size, 3, none⟩ = some (.int .i64 o.i) := HX.out.cell 3
  have x4 : w7.cell? ⟨w.heap.size, 4, none⟩ = some (.int .i64 o.n) := HX.out.cell 4
  have ltX := HX.out.lt
  have y0 : w7.cell? ⟨w.heap.size + 1, 0, none⟩ = some (.int .i64 s.u) := HY.out.cell 0
  have y1 : w7.cell? ⟨w.heap.size + 1, 1, none⟩ = some (.int .i64 s.q) := HY.out.cell 1
  have y2 : w7.cell? ⟨w.heap.size + 1, 2, none⟩ = some (.int .i64 s.s) := HY.out.cell 2
  have y3 : w7.cell? ⟨w.heap.size + 1, 3, none⟩ = some (.int .i64 s.n) := HY.out.cell 3
  have y4 : w7.cell? ⟨w.heap.size + 1, 4, none⟩ = some (.int .i64 s.e) := HY.out.cell 4
  have ltY := HY.out.lt
  have p0 : w7.cell? ⟨bp, 0, none⟩ = some (.int .i64 0) := HP.out.cell 0
  have p1 : w7.cell? ⟨bp, 1, none⟩ = some (.int .i64 0) := HP.out.cell 1
  have p2 : w7.cell? ⟨bp, 2, none⟩ = some (.int .i64 0) := HP.out.cell 2
  have p3 : w7.cell? ⟨bp, 3, none⟩ = some (.int .i64 0) := HP.out.cell 3
  have p4 : w7.cell? ⟨bp, 4, none⟩ = some (.int .i64 0) := HP.out.cell 4
  have ltP := HP.out.lt
  have q0 : w7.cell? ⟨bq, 0, none⟩ = some (.int .i64 s.u) := HQ.out.cell 0
  have q1 : w7.cell? ⟨bq, 1, none⟩ = some (.int .i64 s.q) := HQ.out.cell 1
  have q2 : w7.cell? ⟨bq, 2, none⟩ = some (.int .i64 s.s) := HQ.out.cell 2
  have q3 : w7.cell? ⟨bq, 3, none⟩ = some (.int .i64 s.n) := HQ.out.cell 3
  have q4 : w7.cell? ⟨bq, 4, none⟩ = some (.int .i64 s.e) := HQ.out.cell 4
  have ltQ := HQ.out.lt
  go_wp2_with fail
  refine (encodeOrder_any o _ HO.out).mono ?_
  rintro e w8 ⟨Aw8, cw8, rfl, hown, hb⟩
  have TX := Lib.hid (HX.out.low hb)
  have TY := Lib.hid (HY.out.low hb)
  have TP := Lib.hid (HP.out.low hb)
  have TQ := Lib.hid (HQ.out.low hb)
  have TB := Lib.hid (HB.out.trans (hb.mono HB.out.size))
  have HR := Lib.hid (Rd.of_own hown)
  clear x0 x1 x2 x3 x4 y0 y1 y2 y3 y4 p0 p1 p2 p3 p4 q0 q1 q2 q3 q4 ltX ltY ltP ltQ
  clear hb hown HX HY HP HQ HB
  have HX := Lib.hid TX.out
  have HY := Lib.hid TY.out
  have HP := Lib.hid TP.out
  have HQ := Lib.hid TQ.out
  have HB := Lib.hid TB.out
  clear TB TX TY TP TQ
  have x0 : w8.cell? ⟨w.heap.size, 0, none⟩ = some (.int .i64 o.u) := HX.out.cell 0
  have x1 : w8.cell? ⟨w.heap.size, 1, none⟩ = some (.int .i64 o.e) := HX.out.cell 1
  have x2 : w8.cell? ⟨w.heap.size, 2, none⟩ = some (.int .i64 o.k) := HX.out.cell 2
  have x3 : w8.cell? ⟨w.heap.size, 3, none⟩ = some (.int .i64 o.i) := HX.out.cell 3
  have x4 : w8.cell? ⟨w.heap.size, 4, none⟩ = some (.int .i64 o.n) := HX.out.cell 4
  have ltX := HX.out.lt
  have y0 : w8.cell? ⟨w.heap.size + 1, 0, none⟩ = some (.int .i64 s.u) := HY.out.cell 0
  have y1 : w8.cell? ⟨w.heap.size + 1, 1, none⟩ = some (.int .i64 s.q) := HY.out.cell 1
  have y2 : w8.cell? ⟨w.heap.size + 1, 2, none⟩ = some (.int .i64 s.s) := HY.out.cell 2
  have y3 : w8.cell? ⟨w.heap.size + 1, 3, none⟩ = some (.int .i64 s.n) := HY.out.cell 3
  have y4 : w8.cell? ⟨w.heap.size + 1, 4, none⟩ = some (.int .i64 s.e) := HY.out.cell 4
  have ltY := HY.out.lt
  have p0 : w8.cell? ⟨bp, 0, none⟩ = some (.int .i64 0) := HP.out.cell 0
  have p1 : w8.cell? ⟨bp, 1, none⟩ = some (.int .i64 0) := HP.out.cell 1
  have p2 : w8.cell? ⟨bp, 2, none⟩ = some (.int .i64 0) := HP.out.cell 2
  have p3 : w8.cell? ⟨bp, 3, none⟩ = some (.int .i64 0) := HP.out.cell 3
  have p4 : w8.cell? ⟨bp, 4, none⟩ = some (.int .i64 0) := HP.out.cell 4
  have ltP := HP.out.lt
  have q0 : w8.cell? ⟨bq, 0, none⟩ = some (.int .i64 s.u) := HQ.out.cell 0
  have q1 : w8.cell? ⟨bq, 1, none⟩ = some (.int .i64 s.q) := HQ.out.cell 1
  have q2 : w8.cell? ⟨bq, 2, none⟩ = some (.int .i64 s.s) := HQ.out.cell 2
  have q3 : w8.cell? ⟨bq, 3, none⟩ = some (.int .i64 s.n) := HQ.out.cell 3
  have q4 : w8.cell? ⟨bq, 4, none⟩ = some (.int .i64 s.e) := HQ.out.cell 4
  have ltQ := HQ.out.lt
  rw [HP0.out]
  clear HR
  go_wp2_with fail
  refine (encodeStatus_any s _ HS64.out).mono ?_
  rintro e w9 ⟨Aw9, cw9, rfl, hown, hb⟩
  have TX := Lib.hid (HX.out.low hb)
  have TY := Lib.hid (HY.out.low hb)
  have TP := Lib.hid (HP.out.low hb)
  have TQ := Lib.hid (HQ.out.low hb)
  have TB := Lib.hid (HB.out.trans (hb.mono HB.out.size))
  have HR := Lib.hid (Rd.of_own hown)
  clear x0 x1 x2 x3 x4 y0 y1 y2 y3 y4 p0 p1 p2 p3 p4 q0 q1 q2 q3 q4 ltX ltY ltP ltQ
  clear hb hown HX HY HP HQ HB
  have HX := Lib.hid TX.out
  have HY := Lib.hid TY.out
  have HP := Lib.hid TP.out
  have HQ := Lib.hid TQ.out
  have HB := Lib.hid TB.out
  clear TB TX TY TP TQ
  have x0 : w9.cell? ⟨w.heap.size, 0, none⟩ = some (.int .i64 o.u) := HX.out.cell 0
  have x1 : w9.cell? ⟨w.heap.size, 1, none⟩ = some (.int .i64 o.e) := HX.out.cell 1
  have x2 : w9.cell? ⟨w.heap.size, 2, none⟩ = some (.int .i64 o.k) := HX.out.cell 2
  have x3 : w9.cell? ⟨w.heap.size, 3, none⟩ = some (.int .i64 o.i) := HX.out.cell 3
  have x4 : w9.cell? ⟨w.heap.size, 4, none⟩ = some (.int .i64 o.n) := HX.out.cell 4
  have ltX := HX.out.lt
  have y0 : w9.cell? ⟨w.heap.size + 1, 0, none⟩ = some (.int .i64 s.u) := HY.out.cell 0
  have y1 : w9.cell? ⟨w.heap.size + 1, 1, none⟩ = some (.int .i64 s.q) := HY.out.cell 1
  have y2 : w9.cell? ⟨w.heap.size + 1, 2, none⟩ = some (.int .i64 s.s) := HY.out.cell 2
  have y3 : w9.cell? ⟨w.heap.size + 1, 3, none⟩ = some (.int .i64 s.n) := HY.out.cell 3
  have y4 : w9.cell? ⟨w.heap.size + 1, 4, none⟩ = some (.int .i64 s.e) := HY.out.cell 4
  have ltY := HY.out.lt
  have p0 : w9.cell? ⟨bp, 0, none⟩ = some (.int .i64 0) := HP.out.cell 0
  have p1 : w9.cell? ⟨bp, 1, none⟩ = some (.int .i64 0) := HP.out.cell 1
  have p2 : w9.cell? ⟨bp, 2, none⟩ = some (.int .i64 0) := HP.out.cell 2
  have p3 : w9.cell? ⟨bp, 3, none⟩ = some (.int .i64 0) := HP.out.cell 3
  have p4 : w9.cell? ⟨bp, 4, none⟩ = some (.int .i64 0) := HP.out.cell 4
  have ltP := HP.out.lt
  have q0 : w9.cell? ⟨bq, 0, none⟩ = some (.int .i64 s.u) := HQ.out.cell 0
  have q1 : w9.cell? ⟨bq, 1, none⟩ = some (.int .i64 s.q) := HQ.out.cell 1
  have q2 : w9.cell? ⟨bq, 2, none⟩ = some (.int .i64 s.s) := HQ.out.cell 2
  have q3 : w9.cell? ⟨bq, 3, none⟩ = some (.int .i64 s.n) := HQ.out.cell 3
  have q4 : w9.cell? ⟨bq, 4, none⟩ = some (.int .i64 s.e) := HQ.out.cell 4
  have ltQ := HQ.out.lt
  clear HR
  go_wp2
  go_ret
  exact ⟨ret_bool (by simp), HB.out⟩
set_option maxRecDepth 100000 in
set_option maxHeartbeats 1000000 in
theorem roundTrips_FF (o : Or.O) (s : Or.S) (w : World) (ho : Or.O64 o) (hs : Or.S64 s) (hv : Or.valid o = false) (hf : Or.fit s = false) :
    Calls Try.prog 8 #[.agg #[.int .i64 o.u, .int .i64 o.e, .int .i64 o.k, .int .i64 o.i, .int .i64 o.n], .agg #[.int .i64 s.u, .int .i64 s.q, .int .i64 s.s, .int .i64 s.n, .int .i64 s.e]] w fun e w' => e = .returned (.bool true) ∧ Below w.heap.size w w' := by
  have HOB := Lib.hid (show Or.decO (Or.put o) = ⟨0, 0, 0, 0, 0⟩ ∧ Or.decE (Or.okO (Or.put o)) = 2 by obtain ⟨_, h1, h2⟩ := Or.bad_put hv; rw [h1, h2]; exact ⟨rfl, rfl⟩)
  have HSB := Lib.hid (show Or.decS (Or.say s) = ⟨0, 0, 0, 0, 0⟩ ∧ Or.decE (Or.okS (Or.say s)) = 2 by obtain ⟨_, h1, h2⟩ := Or.bad_say hf; rw [h1, h2]; exact ⟨rfl, rfl⟩)
  have HPL := Lib.hid (Or.put_len ho)
  have HSL := Lib.hid (Or.say_len hs)
  have HP0 := Lib.hid (show (Or.put o).length = 0 by rw [(Or.bad_put hv).1]; rfl)
  have HS0 := Lib.hid (show (Or.say s).length = 0 by rw [(Or.bad_say hf).1]; rfl)
  have HO := Lib.hid ho
  have HS64 := Lib.hid hs
  have HV := Lib.hid hv
  have HX := Lib.hid ((Blk.new w 29 #[.int .i64 o.u, .int .i64 o.e, .int .i64 o.k, .int .i64 o.i, .int .i64 o.n]).alloc (.cells #[.int .i64 s.u, .int .i64 s.q, .int .i64 s.s, .int .i64 s.n, .int .i64 s.e] 45))
  have HY := Lib.hid (Blk.new' (w.alloc (.cells #[.int .i64 o.u, .int .i64 o.e, .int .i64 o.k, .int .i64 o.i, .int .i64 o.n] 29)) 45 #[.int .i64 s.u, .int .i64 s.q, .int .i64 s.s, .int .i64 s.n, .int .i64 s.e] (w.heap.size + 1) (by simp))
  have hal := (Below.refl w.heap.size w).alloc (Nat.le_refl _) (.cells #[.int .i64 o.u, .int .i64 o.e, .int .i64 o.k, .int .i64 o.i, .int .i64 o.n] 29)
  have HB := Lib.hid (hal.alloc hal.size (.cells #[.int .i64 s.u, .int .i64 s.q, .int .i64 s.s, .int .i64 s.n, .int .i64 s.e] 45))
  clear ho hs hal hv hf
  go_enter Try.func8, Try.ntmps8
  go_wp2_with fail
  refine (alive_any _).mono ?_
  rintro e w0 ⟨rfl, hb⟩
  have TX := Lib.hid (HX.out.low hb)
  have TY := Lib.hid (HY.out.low hb)
  have TB := Lib.hid (HB.out.trans (hb.mono HB.out.size))
  clear hb HX HY HB
  have HX := Lib.hid TX.out
  have HY := Lib.hid TY.out
  have HB := Lib.hid TB.out
  clear TB TX TY
  have x0 : w0.cell? ⟨w.heap.size, 0, none⟩ = some (.int .i64 o.u) := HX.out.cell 0
  have x1 : w0.cell? ⟨w.heap.size, 1, none⟩ = some (.int .i64 o.e) := HX.out.cell 1
  have x2 : w0.cell? ⟨w.heap.size, 2, none⟩ = some (.int .i64 o.k) := HX.out.cell 2
  have x3 : w0.cell? ⟨w.heap.size, 3, none⟩ = some (.int .i64 o.i) := HX.out.cell 3
  have x4 : w0.cell? ⟨w.heap.size, 4, none⟩ = some (.int .i64 o.n) := HX.out.cell 4
  have ltX := HX.out.lt
  have y0 : w0.cell? ⟨w.heap.size + 1, 0, none⟩ = some (.int .i64 s.u) := HY.out.cell 0
  have y1 : w0.cell? ⟨w.heap.size + 1, 1, none⟩ = some (.int .i64 s.q) := HY.out.cell 1
  have y2 : w0.cell? ⟨w.heap.size + 1, 2, none⟩ = some (.int .i64 s.s) := HY.out.cell 2
  have y3 : w0.cell? ⟨w.heap.size + 1, 3, none⟩ = some (.int .i64 s.n) := HY.out.cell 3
  have y4 : w0.cell? ⟨w.heap.size + 1, 4, none⟩ = some (.int .i64 s.e) := HY.out.cell 4
  have ltY := HY.out.lt
  go_wp2_with fail
  refine (encodeOrder_any o _ HO.out).mono ?_
  rintro e w1 ⟨Aw1, cw1, rfl, hown, hb⟩
  have TX := Lib.hid (HX.out.low hb)
  have TY := Lib.hid (HY.out.low hb)
  have TB := Lib.hid (HB.out.trans (hb.mono HB.out.size))
  have HR := Lib.hid (Rd.of_own hown)
  clear x0 x1 x2 x3 x4 y0 y1 y2 y3 y4 ltX ltY
  clear hb hown HX HY HB
  have HX := Lib.hid TX.out
  have HY := Lib.hid TY.out
  have HB := Lib.hid TB.out
  clear TB TX TY
  have x0 : w1.cell? ⟨w.heap.size, 0, none⟩ = some (.int .i64 o.u) := HX.out.cell 0
  have x1 : w1.cell? ⟨w.heap.size, 1, none⟩ = some (.int .i64 o.e) := HX.out.cell 1
  have x2 : w1.cell? ⟨w.heap.size, 2, none⟩ = some (.int .i64 o.k) := HX.out.cell 2
  have x3 : w1.cell? ⟨w.heap.size, 3, none⟩ = some (.int .i64 o.i) := HX.out.cell 3
  have x4 : w1.cell? ⟨w.heap.size, 4, none⟩ = some (.int .i64 o.n) := HX.out.cell 4
  have ltX := HX.out.lt
  have y0 : w1.cell? ⟨w.heap.size + 1, 0, none⟩ = some (.int .i64 s.u) := HY.out.cell 0
  have y1 : w1.cell? ⟨w.heap.size + 1, 1, none⟩ = some (.int .i64 s.q) := HY.out.cell 1
  have y2 : w1.cell? ⟨w.heap.size + 1, 2, none⟩ = some (.int .i64 s.s) := HY.out.cell 2
  have y3 : w1.cell? ⟨w.heap.size + 1, 3, none⟩ = some (.int .i64 s.n) := HY.out.cell 3
  have y4 : w1.cell? ⟨w.heap.size + 1, 4, none⟩ = some (.int .i64 s.e) := HY.out.cell 4
  have ltY := HY.out.lt
  go_wp2_with fail
  refine (decodeOrder_any _ (Or.put o) _ _ HR.out (Or.put_bts o) (by have := HPL.out; omega)).mono ?_
  rw [HOB.out.1, HOB.out.2]
  rintro e w2 ⟨rfl, hb⟩
  have TX := Lib.hid (HX.out.low hb)
  have TY := Lib.hid (HY.out.low hb)
  have TB := Lib.hid (HB.out.trans (hb.mono HB.out.size))
  clear x0 x1 x2 x3 x4 y0 y1 y2 y3 y4 ltX ltY
  clear hb HX HY HB
  have HX := Lib.hid TX.out
  have HY := Lib.hid TY.out
  have HB := Lib.hid TB.out
  clear TB TX TY
  have x0 : w2.cell? ⟨w.heap.size, 0, none⟩ = some (.int .i64 o.u) := HX.out.cell 0
  have x1 : w2.cell? ⟨w.heap.size, 1, none⟩ = some (.int .i64 o.e) := HX.out.cell 1
  have x2 : w2.cell? ⟨w.heap.size, 2, none⟩ = some (.int .i64 o.k) := HX.out.cell 2
  have x3 : w2.cell? ⟨w.heap.size, 3, none⟩ = some (.int .i64 o.i) := HX.out.cell 3
  have x4 : w2.cell? ⟨w.heap.size, 4, none⟩ = some (.int .i64 o.n) := HX.out.cell 4
  have ltX := HX.out.lt
  have y0 : w2.cell? ⟨w.heap.size + 1, 0, none⟩ = some (.int .i64 s.u) := HY.out.cell 0
  have y1 : w2.cell? ⟨w.heap.size + 1, 1, none⟩ = some (.int .i64 s.q) := HY.out.cell 1
  have y2 : w2.cell? ⟨w.heap.size + 1, 2, none⟩ = some (.int .i64 s.s) := HY.out.cell 2
  have y3 : w2.cell? ⟨w.heap.size + 1, 3, none⟩ = some (.int .i64 s.n) := HY.out.cell 3
  have y4 : w2.cell? ⟨w.heap.size + 1, 4, none⟩ = some (.int .i64 s.e) := HY.out.cell 4
  have ltY := HY.out.lt
  clear HR
  go_wp2_with fail
  obtain ⟨bp, hbk⟩ : ∃ b, w2.heap.size = b := ⟨_, rfl⟩
  have HP := Lib.hid (Blk.new' w2 29 #[.int .i64 0, .int .i64 0, .int .i64 0, .int .i64 0, .int .i64 0] bp hbk)
  have TX := Lib.hid (HX.out.alloc (.cells #[.int .i64 0, .int .i64 0, .int .i64 0, .int .i64 0, .int .i64 0] 29))
  have TY := Lib.hid (HY.out.alloc (.cells #[.int .i64 0, .int .i64 0, .int .i64 0, .int .i64 0, .int .i64 0] 29))
  have TB := Lib.hid (HB.out.alloc HB.out.size (.cells #[.int .i64 0, .int .i64 0, .int .i64 0, .int .i64 0, .int .i64 0] 29))
  clear x0 x1 x2 x3 x4 y0 y1 y2 y3 y4 ltX ltY
  clear HB HX HY
  try rw [hbk]
  obtain ⟨w3, hw⟩ : ∃ w', w2.alloc (.cells #[.int .i64 0, .int .i64 0, .int .i64 0, .int .i64 0, .int .i64 0] 29) = w' := ⟨_, rfl⟩
  rw [hw] at HP TB TX TY ⊢
  have HX := Lib.hid TX.out
  have HY := Lib.hid TY.out
  have HB := Lib.hid TB.out
  clear TB hw hbk TX TY
  have x0 : w3.cell? ⟨w.heap.size, 0, none⟩ = some (.int .i64 o.u) := HX.out.cell 0
  have x1 : w3.cell? ⟨w.heap.size, 1, none⟩ = some (.int .i64 o.e) := HX.out.cell 1
  have x2 : w3.cell? ⟨w.heap.size, 2, none⟩ = some (.int .i64 o.k) := HX.out.cell 2
  have x3 : w3.cell? ⟨w.heap.size, 3, none⟩ = some (.int .i64 o.i) := HX.out.cell 3
  have x4 : w3.cell? ⟨w.heap.size, 4, none⟩ = some (.int .i64 o.n) := HX.out.cell 4
  have ltX := HX.out.lt
  have y0 : w3.cell? ⟨w.heap.size + 1, 0, none⟩ = some (.int .i64 s.u) := HY.out.cell 0
  have y1 : w3.cell? ⟨w.heap.size + 1, 1, none⟩ = some (.int .i64 s.q) := HY.out.cell 1
  have y2 : w3.cell? ⟨w.heap.size + 1, 2, none⟩ = some (.int .i64 s.s) := HY.out.cell 2
  have y3 : w3.cell? ⟨w.heap.size + 1, 3, none⟩ = some (.int .i64 s.n) := HY.out.cell 3
  have y4 : w3.cell? ⟨w.heap.size + 1, 4, none⟩ = some (.int .i64 s.e) := HY.out.cell 4
  have ltY := HY.out.lt
  have p0 : w3.cell? ⟨bp, 0, none⟩ = some (.int .i64 0) := HP.out.cell 0
  have p1 : w3.cell? ⟨bp, 1, none⟩ = some (.int .i64 0) := HP.out.cell 1
  have p2 : w3.cell? ⟨bp, 2, none⟩ = some (.int .i64 0) := HP.out.cell 2
  have p3 : w3.cell? ⟨bp, 3, none⟩ = some (.int .i64 0) := HP.out.cell 3
  have p4 : w3.cell? ⟨bp, 4, none⟩ = some (.int .i64 0) := HP.out.cell 4
  have ltP := HP.out.lt
  refine (encodeStatus_any s _ HS64.out).mono ?_
  rintro e w4 ⟨Aw4, cw4, rfl, hown, hb⟩
  have TX := Lib.hid (HX.out.low hb)
  have TY := Lib.hid (HY.out.low hb)
  have TP := Lib.hid (HP.out.low hb)
  have TB := Lib.hid (HB.out.trans (hb.mono HB.out.size))
  have HR := Lib.hid (Rd.of_own hown)
  clear x0 x1 x2 x3 x4 y0 y1 y2 y3 y4 p0 p1 p2 p3 p4 ltX ltY ltP
  clear hb hown HX HY HP HB
  have HX := Lib.hid TX.out
  have HY := Lib.hid TY.out
  have HP := Lib.hid TP.out
  have HB := Lib.hid TB.out
  clear TB TX TY TP
  have x0 : w4.cell? ⟨w.heap.size, 0, none⟩ = some (.int .i64 o.u) := HX.out.cell 0
  have x1 : w4.cell? ⟨w.heap.size, 1, none⟩ = some (.int .i64 o.e) := HX.out.cell 1
  have x2 : w4.cell? ⟨w.heap.size, 2, none⟩ = some (.int .i64 o.k) := HX.out.cell 2
  have x3 : w4.cell? ⟨w.heap.size, 3, none⟩ = some (.int .i64 o.i) := HX.out.cell 3
  have x4 : w4.cell? ⟨w.heap.size, 4, none⟩ = some (.int .i64 o.n) := HX.out.cell 4
  have ltX := HX.out.lt
  have y0 : w4.cell? ⟨w.heap.size + 1, 0, none⟩ = some (.int .i64 s.u) := HY.out.cell 0
  have y1 : w4.cell? ⟨w.heap.size + 1, 1, none⟩ = some (.int .i64 s.q) := HY.out.cell 1
  have y2 : w4.cell? ⟨w.heap.size + 1, 2, none⟩ = some (.int .i64 s.s) := HY.out.cell 2
  have y3 : w4.cell? ⟨w.heap.size + 1, 3, none⟩ = some (.int .i64 s.n) := HY.out.cell 3
  have y4 : w4.cell? ⟨w.heap.size + 1, 4, none⟩ = some (.int .i64 s.e) := HY.out.cell 4
  have ltY := HY.out.lt
  have p0 : w4.cell? ⟨bp, 0, none⟩ = some (.int .i64 0) := HP.out.cell 0
  have p1 : w4.cell? ⟨bp, 1, none⟩ = some (.int .i64 0) := HP.out.cell 1
  have p2 : w4.cell? ⟨bp, 2, none⟩ = some (.int .i64 0) := HP.out.cell 2
  have p3 : w4.cell? ⟨bp, 3, none⟩ = some (.int .i64 0) := HP.out.cell 3
  have p4 : w4.cell? ⟨bp, 4, none⟩ = some (.int .i64 0) := HP.out.cell 4
  have ltP := HP.out.lt
  go_wp2_with fail
  refine (decodeStatus_any _ (Or.say s) _ _ HR.out (Or.say_bts s) (by have := HSL.out; omega)).mono ?_
  rw [HSB.out.1, HSB.out.2]
  rintro e w5 ⟨rfl, hb⟩
  have TX := Lib.hid (HX.out.low hb)
  have TY := Lib.hid (HY.out.low hb)
  have TP := Lib.hid (HP.out.low hb)
  have TB := Lib.hid (HB.out.trans (hb.mono HB.out.size))
  clear x0 x1 x2 x3 x4 y0 y1 y2 y3 y4 p0 p1 p2 p3 p4 ltX ltY ltP
  clear hb HX HY HP HB
  have HX := Lib.hid TX.out
  have HY := Lib.hid TY.out
  have HP := Lib.hid TP.out
  have HB := Lib.hid TB.out
  clear TB TX TY TP
  have x0 : w5.cell? ⟨w.heap.size, 0, none⟩ = some (.int .i64 o.u) := HX.out.cell 0
  have x1 : w5.cell? ⟨w.heap.size, 1, none⟩ = some (.int .i64 o.e) := HX.out.cell 1
  have x2 : w5.cell? ⟨w.heap.size, 2, none⟩ = some (.int .i64 o.k) := HX.out.cell 2
  have x3 : w5.cell? ⟨w.heap.size, 3, none⟩ = some (.int .i64 o.i) := HX.out.cell 3
  have x4 : w5.cell? ⟨w.heap.size, 4, none⟩ = some (.int .i64 o.n) := HX.out.cell 4
  have ltX := HX.out.lt
  have y0 : w5.cell? ⟨w.heap.size + 1, 0, none⟩ = some (.int .i64 s.u) := HY.out.cell 0
  have y1 : w5.cell? ⟨w.heap.size + 1, 1, none⟩ = some (.int .i64 s.q) := HY.out.cell 1
  have y2 : w5.cell? ⟨w.heap.size + 1, 2, none⟩ = some (.int .i64 s.s) := HY.out.cell 2
  have y3 : w5.cell? ⟨w.heap.size + 1, 3, none⟩ = some (.int .i64 s.n) := HY.out.cell 3
  have y4 : w5.cell? ⟨w.heap.size + 1, 4, none⟩ = some (.int .i64 s.e) := HY.out.cell 4
  have ltY := HY.out.lt
  have p0 : w5.cell? ⟨bp, 0, none⟩ = some (.int .i64 0) := HP.out.cell 0
  have p1 : w5.cell? ⟨bp, 1, none⟩ = some (.int .i64 0) := HP.out.cell 1
  have p2 : w5.cell? ⟨bp, 2, none⟩ = some (.int .i64 0) := HP.out.cell 2
  have p3 : w5.cell? ⟨bp, 3, none⟩ = some (.int .i64 0) := HP.out.cell 3
  have p4 : w5.cell? ⟨bp, 4, none⟩ = some (.int .i64 0) := HP.out.cell 4
  have ltP := HP.out.lt
  clear HR
  go_wp2_with fail
  obtain ⟨bq, hbk⟩ : ∃ b, w5.heap.size = b := ⟨_, rfl⟩
  have HQ := Lib.hid (Blk.new' w5 45 #[.int .i64 0, .int .i64 0, .int .i64 0, .int .i64 0, .int .i64 0] bq hbk)
  have TX := Lib.hid (HX.out.alloc (.cells #[.int .i64 0, .int .i64 0, .int .i64 0, .int .i64 0, .int .i64 0] 45))
  have TY := Lib.hid (HY.out.alloc (.cells #[.int .i64 0, .int .i64 0, .int .i64 0, .int .i64 0, .int .i64 0] 45))
  have TP := Lib.hid (HP.out.alloc (.cells #[.int .i64 0, .int .i64 0, .int .i64 0, .int .i64 0, .int .i64 0] 45))
  have TB := Lib.hid (HB.out.alloc HB.out.size (.cells #[.int .i64 0, .int .i64 0, .int .i64 0, .int .i64 0, .int .i64 0] 45))
  clear x0 x1 x2 x3 x4 y0 y1 y2 y3 y4 p0 p1 p2 p3 p4 ltX ltY ltP
  clear HB HX HY HP
  try rw [hbk]
  obtain ⟨w6, hw⟩ : ∃ w', w5.alloc (.cells #[.int .i64 0, .int .i64 0, .int .i64 0, .int .i64 0, .int .i64 0] 45) = w' := ⟨_, rfl⟩
  rw [hw] at HQ TB TX TY TP ⊢
  have HX := Lib.hid TX.out
  have HY := Lib.hid TY.out
  have HP := Lib.hid TP.out
  have HB := Lib.hid TB.out
  clear TB hw hbk TX TY TP
  have x0 : w6.cell? ⟨w.heap.size, 0, none⟩ = some (.int .i64 o.u) := HX.out.cell 0
  have x1 : w6.cell? ⟨w.heap.size, 1, none⟩ = some (.int .i64 o.e) := HX.out.cell 1
  have x2 : w6.cell? ⟨w.heap.size, 2, none⟩ = some (.int .i64 o.k) := HX.out.cell 2
  have x3 : w6.cell? ⟨w.heap.size, 3, none⟩ = some (.int .i64 o.i) := HX.out.cell 3
  have x4 : w6.cell? ⟨w.heap.size, 4, none⟩ = some (.int .i64 o.n) := HX.out.cell 4
  have ltX := HX.out.lt
  have y0 : w6.cell? ⟨w.heap.size + 1, 0, none⟩ = some (.int .i64 s.u) := HY.out.cell 0
  have y1 : w6.cell? ⟨w.heap.size + 1, 1, none⟩ = some (.int .i64 s.q) := HY.out.cell 1
  have y2 : w6.cell? ⟨w.heap.size + 1, 2, none⟩ = some (.int .i64 s.s) := HY.out.cell 2
  have y3 : w6.cell? ⟨w.heap.size + 1, 3, none⟩ = some (.int .i64 s.n) := HY.out.cell 3
  have y4 : w6.cell? ⟨w.heap.size + 1, 4, none⟩ = some (.int .i64 s.e) := HY.out.cell 4
  have ltY := HY.out.lt
  have p0 : w6.cell? ⟨bp, 0, none⟩ = some (.int .i64 0) := HP.out.cell 0
  have p1 : w6.cell? ⟨bp, 1, none⟩ = some (.int .i64 0) := HP.out.cell 1
  have p2 : w6.cell? ⟨bp, 2, none⟩ = some (.int .i64 0) := HP.out.cell 2
  have p3 : w6.cell? ⟨bp, 3, none⟩ = some (.int .i64 0) := HP.out.cell 3
  have p4 : w6.cell? ⟨bp, 4, none⟩ = some (.int .i64 0) := HP.out.cell 4
  have ltP := HP.out.lt
  have q0 : w6.cell? ⟨bq, 0, none⟩ = some (.int .i64 0) := HQ.out.cell 0
  have q1 : w6.cell? ⟨bq, 1, none⟩ = some (.int .i64 0) := HQ.out.cell 1
  have q2 : w6.cell? ⟨bq, 2, none⟩ = some (.int .i64 0) := HQ.out.cell 2
  have q3 : w6.cell? ⟨bq, 3, none⟩ = some (.int .i64 0) := HQ.out.cell 3
  have q4 : w6.cell? ⟨bq, 4, none⟩ = some (.int .i64 0) := HQ.out.cell 4
  have ltQ := HQ.out.lt
  refine (valid_any o _).mono ?_
  rw [HV.out]
  rintro e w7 ⟨rfl, hb⟩
  have TX := Lib.hid (HX.out.low hb)
  have TY := Lib.hid (HY.out.low hb)
  have TP := Lib.hid (HP.out.low hb)
  have TQ := Lib.hid (HQ.out.low hb)
  have TB := Lib.hid (HB.out.trans (hb.mono HB.out.size))
  clear x0 x1 x2 x3 x4 y0 y1 y2 y3 y4 p0 p1 p2 p3 p4 q0 q1 q2 q3 q4 ltX ltY ltP ltQ
  clear hb HX HY HP HQ HB
  have HX := Lib.hid TX.out
  have HY := Lib.hid TY.out
  have HP := Lib.hid TP.out
  have HQ := Lib.hid TQ.out
  have HB := Lib.hid TB.out
  clear TB TX TY TP TQ
  have x0 : w7.cell? ⟨w.heap.size, 0, none⟩ = some (.int .i64 o.u) := HX.out.cell 0
  have x1 : w7.cell? ⟨w.heap.size, 1, none⟩ = some (.int .i64 o.e) := HX.out.cell 1
  have x2 : w7.cell? ⟨w.heap.size, 2, none⟩ = some (.int .i64 o.k) := HX.out.cell 2
  have x3 : w7.cell? ⟨w.heap.size, 3, none⟩ = some (.int .i64 o.i) := HX.out.cell 3
  have x4 : w7.cell? ⟨w.heap.size, 4, none⟩ = some (.int .i64 o.n) := HX.out.cell 4
  have ltX := HX.out.lt
  have y0 : w7.cell? ⟨w.heap.size + 1, 0, none⟩ = some (.int .i64 s.u) := HY.out.cell 0
  have y1 : w7.cell? ⟨w.heap.size + 1, 1, none⟩ = some (.int .i64 s.q) := HY.out.cell 1
  have y2 : w7.cell? ⟨w.heap.size + 1, 2, none⟩ = some (.int .i64 s.s) := HY.out.cell 2
  have y3 : w7.cell? ⟨w.heap.size + 1, 3, none⟩ = some (.int .i64 s.n) := HY.out.cell 3
  have y4 : w7.cell? ⟨w.heap.size + 1, 4, none⟩ = some (.int .i64 s.e) := HY.out.cell 4
  have ltY := HY.out.lt
  have p0 : w7.cell? ⟨bp, 0, none⟩ = some (.int .i64 0) := HP.out.cell 0
  have p1 : w7.cell? ⟨bp, 1, none⟩ = some (.int .i64 0) := HP.out.cell 1
  have p2 : w7.cell? ⟨bp, 2, none⟩ = some (.int .i64 0) := HP.out.cell 2
  have p3 : w7.cell? ⟨bp, 3, none⟩ = some (.int .i64 0) := HP.out.cell 3
  have p4 : w7.cell? ⟨bp, 4, none⟩ = some (.int .i64 0) := HP.out.cell 4
  have ltP := HP.out.lt
  have q0 : w7.cell? ⟨bq, 0, none⟩ = some (.int .i64 0) := HQ.out.cell 0
  have q1 : w7.cell? ⟨bq, 1, none⟩ = some (.int .i64 0) := HQ.out.cell 1
  have q2 : w7.cell? ⟨bq, 2, none⟩ = some (.int .i64 0) := HQ.out.cell 2
  have q3 : w7.cell? ⟨bq, 3, none⟩ = some (.int .i64 0) := HQ.out.cell 3
  have q4 : w7.cell? ⟨bq, 4, none⟩ = some (.int .i64 0) := HQ.out.cell 4
  have ltQ := HQ.out.lt
  go_wp2_with fail
  refine (encodeOrder_any o _ HO.out).mono ?_
  rintro e w8 ⟨Aw8, cw8, rfl, hown, hb⟩
  have TX := Lib.hid (HX.out.low hb)
  have TY := Lib.hid (HY.out.low hb)
  have TP := Lib.hid (HP.out.low hb)
  have TQ := Lib.hid (HQ.out.low hb)
  have TB := Lib.hid (HB.out.trans (hb.mono HB.out.size))
  have HR := Lib.hid (Rd.of_own hown)
  clear x0 x1 x2 x3 x4 y0 y1 y2 y3 y4 p0 p1 p2 p3 p4 q0 q1 q2 q3 q4 ltX ltY ltP ltQ
  clear hb hown HX HY HP HQ HB
  have HX := Lib.hid TX.out
  have HY := Lib.hid TY.out
  have HP := Lib.hid TP.out
  have HQ := Lib.hid TQ.out
  have HB := Lib.hid TB.out
  clear TB TX TY TP TQ
  have x0 : w8.cell? ⟨w.heap.size, 0, none⟩ = some (.int .i64 o.u) := HX.out.cell 0
  have x1 : w8.cell? ⟨w.heap.size, 1, none⟩ = some (.int .i64 o.e) := HX.out.cell 1
  have x2 : w8.cell? ⟨w.heap.size, 2, none⟩ = some (.int .i64 o.k) := HX.out.cell 2
  have x3 : w8.cell? ⟨w.heap.size, 3, none⟩ = some (.int .i64 o.i) := HX.out.cell 3
  have x4 : w8.cell? ⟨w.heap.size, 4, none⟩ = some (.int .i64 o.n) := HX.out.cell 4
  have ltX := HX.out.lt
  have y0 : w8.cell? ⟨w.heap.size + 1, 0, none⟩ = some (.int .i64 s.u) := HY.out.cell 0
  have y1 : w8.cell? ⟨w.heap.size + 1, 1, none⟩ = some (.int .i64 s.q) := HY.out.cell 1
  have y2 : w8.cell? ⟨w.heap.size + 1, 2, none⟩ = some (.int .i64 s.s) := HY.out.cell 2
  have y3 : w8.cell? ⟨w.heap.size + 1, 3, none⟩ = some (.int .i64 s.n) := HY.out.cell 3
  have y4 : w8.cell? ⟨w.heap.size + 1, 4, none⟩ = some (.int .i64 s.e) := HY.out.cell 4
  have ltY := HY.out.lt
  have p0 : w8.cell? ⟨bp, 0, none⟩ = some (.int .i64 0) := HP.out.cell 0
  have p1 : w8.cell? ⟨bp, 1, none⟩ = some (.int .i64 0) := HP.out.cell 1
  have p2 : w8.cell? ⟨bp, 2, none⟩ = some (.int .i64 0) := HP.out.cell 2
  have p3 : w8.cell? ⟨bp, 3, none⟩ = some (.int .i64 0) := HP.out.cell 3
  have p4 : w8.cell? ⟨bp, 4, none⟩ = some (.int .i64 0) := HP.out.cell 4
  have ltP := HP.out.lt
  have q0 : w8.cell? ⟨bq, 0, none⟩ = some (.int .i64 0) := HQ.out.cell 0
  have q1 : w8.cell? ⟨bq, 1, none⟩ = some (.int .i64 0) := HQ.out.cell 1
  have q2 : w8.cell? ⟨bq, 2, none⟩ = some (.int .i64 0) := HQ.out.cell 2
  have q3 : w8.cell? ⟨bq, 3, none⟩ = some (.int .i64 0) := HQ.out.cell 3
  have q4 : w8.cell? ⟨bq, 4, none⟩ = some (.int .i64 0) := HQ.out.cell 4
  have ltQ := HQ.out.lt
  rw [HP0.out]
  clear HR
  go_wp2_with fail
  refine (encodeStatus_any s _ HS64.out).mono ?_
  rintro e w9 ⟨Aw9, cw9, rfl, hown, hb⟩
  have TX := Lib.hid (HX.out.low hb)
  have TY := Lib.hid (HY.out.low hb)
  have TP := Lib.hid (HP.out.low hb)
  have TQ := Lib.hid (HQ.out.low hb)
  have TB := Lib.hid (HB.out.trans (hb.mono HB.out.size))
  have HR := Lib.hid (Rd.of_own hown)
  clear x0 x1 x2 x3 x4 y0 y1 y2 y3 y4 p0 p1 p2 p3 p4 q0 q1 q2 q3 q4 ltX ltY ltP ltQ
  clear hb hown HX HY HP HQ HB
  have HX := Lib.hid TX.out
  have HY := Lib.hid TY.out
  have HP := Lib.hid TP.out
  have HQ := Lib.hid TQ.out
  have HB := Lib.hid TB.out
  clear TB TX TY TP TQ
  have x0 : w9.cell? ⟨w.heap.size, 0, none⟩ = some (.int .i64 o.u) := HX.out.cell 0
  have x1 : w9.cell? ⟨w.heap.size, 1, none⟩ = some (.int .i64 o.e) := HX.out.cell 1
  have x2 : w9.cell? ⟨w.heap.size, 2, none⟩ = some (.int .i64 o.k) := HX.out.cell 2
  have x3 : w9.cell? ⟨w.heap.size, 3, none⟩ = some (.int .i64 o.i) := HX.out.cell 3
  have x4 : w9.cell? ⟨w.heap.size, 4, none⟩ = some (.int .i64 o.n) := HX.out.cell 4
  have ltX := HX.out.lt
  have y0 : w9.cell? ⟨w.heap.size + 1, 0, none⟩ = some (.int .i64 s.u) := HY.out.cell 0
  have y1 : w9.cell? ⟨w.heap.size + 1, 1, none⟩ = some (.int .i64 s.q) := HY.out.cell 1
  have y2 : w9.cell? ⟨w.heap.size + 1, 2, none⟩ = some (.int .i64 s.s) := HY.out.cell 2
  have y3 : w9.cell? ⟨w.heap.size + 1, 3, none⟩ = some (.int .i64 s.n) := HY.out.cell 3
  have y4 : w9.cell? ⟨w.heap.size + 1, 4, none⟩ = some (.int .i64 s.e) := HY.out.cell 4
  have ltY := HY.out.lt
  have p0 : w9.cell? ⟨bp, 0, none⟩ = some (.int .i64 0) := HP.out.cell 0
  have p1 : w9.cell? ⟨bp, 1, none⟩ = some (.int .i64 0) := HP.out.cell 1
  have p2 : w9.cell? ⟨bp, 2, none⟩ = some (.int .i64 0) := HP.out.cell 2
  have p3 : w9.cell? ⟨bp, 3, none⟩ = some (.int .i64 0) := HP.out.cell 3
  have p4 : w9.cell? ⟨bp, 4, none⟩ = some (.int .i64 0) := HP.out.cell 4
  have ltP := HP.out.lt
  have q0 : w9.cell? ⟨bq, 0, none⟩ = some (.int .i64 0) := HQ.out.cell 0
  have q1 : w9.cell? ⟨bq, 1, none⟩ = some (.int .i64 0) := HQ.out.cell 1
  have q2 : w9.cell? ⟨bq, 2, none⟩ = some (.int .i64 0) := HQ.out.cell 2
  have q3 : w9.cell? ⟨bq, 3, none⟩ = some (.int .i64 0) := HQ.out.cell 3
  have q4 : w9.cell? ⟨bq, 4, none⟩ = some (.int .i64 0) := HQ.out.cell 4
  have ltQ := HQ.out.lt
  rw [HS0.out]
  clear HR
  go_wp2
  go_ret
  exact ⟨ret_bool (by simp), HB.out⟩

theorem roundTrips_walk (o : Or.O) (s : Or.S) (w : World) (ho : Or.O64 o) (hs : Or.S64 s) :
    Calls Try.prog 8 #[.agg #[.int .i64 o.u, .int .i64 o.e, .int .i64 o.k, .int .i64 o.i, .int .i64 o.n], .agg #[.int .i64 s.u, .int .i64 s.q, .int .i64 s.s, .int .i64 s.n, .int .i64 s.e]] w fun e w' => e = .returned (.bool true) ∧ Below w.heap.size w w' := by
  cases hv : Or.valid o with
  | true =>
    cases hf : Or.fit s with
    | true => exact roundTrips_TT o s w ho hs hv hf
    | false => exact roundTrips_TF o s w ho hs hv hf
  | false =>
    cases hf : Or.fit s with
    | true => exact roundTrips_FT o s w ho hs hv hf
    | false => exact roundTrips_FF o s w ho hs hv hf
end Go.Proofs.Ytikbenngbaicoaa
