/- Layer 28: the walks of the reference. -/
import Derived.Test.YtikbenngbaicoaaOrG
namespace Go.Proofs.Ytikbenngbaicoaa
set_option linter.unusedSimpArgs false
set_option linter.unusedVariables false
open Go.RowKit

theorem things5 (w : World) (a b c d e : Int) : Things (w.alloc (.cells #[.int .i64 0, .int .i64 a, .bool false, .string ByteArray.empty, .slice none 0 0, .int .i64 0, .int .i64 b, .bool false, .string ByteArray.empty, .slice none 0 0, .int .i64 0, .int .i64 c, .bool false, .string ByteArray.empty, .slice none 0 0, .int .i64 0, .int .i64 d, .bool false, .string ByteArray.empty, .slice none 0 0, .int .i64 0, .int .i64 e, .bool false, .string ByteArray.empty, .slice none 0 0] 84)) (some ⟨w.heap.size, 0, none⟩) [a, b, c, d, e] := fun k hk => by
  have h := Blk.new w 84 #[.int .i64 0, .int .i64 a, .bool false, .string ByteArray.empty, .slice none 0 0, .int .i64 0, .int .i64 b, .bool false, .string ByteArray.empty, .slice none 0 0, .int .i64 0, .int .i64 c, .bool false, .string ByteArray.empty, .slice none 0 0, .int .i64 0, .int .i64 d, .bool false, .string ByteArray.empty, .slice none 0 0, .int .i64 0, .int .i64 e, .bool false, .string ByteArray.empty, .slice none 0 0]
  have hk' : k = 0 ∨ k = 1 ∨ k = 2 ∨ k = 3 ∨ k = 4 := by simp at hk; omega
  rcases hk' with rfl | rfl | rfl | rfl | rfl
  · exact ⟨_, w.heap.size, 0, rfl, rfl, h.cell 0, h.cell 1, h.cell 2, h.cell 3, h.cell 4⟩
  · exact ⟨_, w.heap.size, 5, rfl, rfl, h.cell 5, h.cell 6, h.cell 7, h.cell 8, h.cell 9⟩
  · exact ⟨_, w.heap.size, 10, rfl, rfl, h.cell 10, h.cell 11, h.cell 12, h.cell 13, h.cell 14⟩
  · exact ⟨_, w.heap.size, 15, rfl, rfl, h.cell 15, h.cell 16, h.cell 17, h.cell 18, h.cell 19⟩
  · exact ⟨_, w.heap.size, 20, rfl, rfl, h.cell 20, h.cell 21, h.cell 22, h.cell 23, h.cell 24⟩

set_option maxRecDepth 100000 in
theorem five_any (a b c d e : Int) (w : World) (ha : Wr.I64 a) (hb : Wr.I64 b) (hc : Wr.I64 c) (hd : Wr.I64 d) (he : Wr.I64 e) :
    Calls Try.prog 33 #[.int .i64 a, .int .i64 b, .int .i64 c, .int .i64 d, .int .i64 e] w fun e_ w' => ∃ A k, e_ = .returned (.slice A (Wr.encs [a, b, c, d, e]).length k) ∧ Own8 w' w.heap.size A k (Wr.encs [a, b, c, d, e]) ∧ Below w.heap.size w w' := by
  have HA := Lib.hid (show ∀ x ∈ [a, b, c, d, e], Wr.I64 x by intro x hx; simp at hx; rcases hx with rfl | rfl | rfl | rfl | rfl <;> assumption)
  have HT := Lib.hid (things5 w a b c d e)
  clear ha hb hc hd he
  go_enter Try.func33, Try.ntmps33
  go_wp2_with fail
  refine (refAll_any _ _ [a, b, c, d, e] 5 HT.out HA.out (by simp)).mono ?_
  rintro e_ w1 ⟨A, k, rfl, hown, hbl⟩
  have HO := Lib.hid hown
  have HB := Lib.hid hbl
  clear hown hbl
  go_wp2
  go_ret
  exact ⟨A, k, rfl, own_base HO.out (by simp), ((Below.refl _ _).alloc (Nat.le_refl _) _).trans (HB.out.mono (by simp))⟩

set_option maxRecDepth 100000 in
theorem rput_any (o : Or.O) (w : World) (h64 : Or.O64 o) :
    Calls Try.prog 18 #[.agg #[.int .i64 o.u, .int .i64 o.e, .int .i64 o.k, .int .i64 o.i, .int .i64 o.n]] w fun e w' => ∃ A c, e = .returned (.slice A (Or.put o).length c) ∧ Own8 w' w.heap.size A c (Or.put o) ∧ Below w.heap.size w w' := by
  have H64 := Lib.hid h64
  clear h64
  cases hv : Or.valid o with
  | false =>
    have HP := Lib.hid (show Or.put o = [] by unfold Or.put; rw [hv]; rfl)
    go_enter Try.func18, Try.ntmps18
    go_wp2_with (go_at_call 22; refine (right_any o _).mono ?_; rw [hv]; rintro e w1 ⟨rfl, hb1⟩)
    go_ret
    rw [HP.out]
    exact ⟨none, 0, rfl, World.ownsRow_nil _ _ _ _, ((Below.refl _ _).alloc (Nat.le_refl _) _).trans (hb1.mono (by simp))⟩
  | true =>
    have HP := Lib.hid (show Or.put o = Wr.encs [o.u, o.e, o.k, o.i, o.n] by unfold Or.put; rw [hv]; rfl)
    have HV := Lib.hid hv
    clear hv
    go_enter Try.func18, Try.ntmps18
    go_wp2_with fail
    refine (right_any o _).mono ?_
    rw [HV.out]
    rintro e w1 ⟨rfl, hb1⟩
    have hx := (Blk.new w 29 #[.int .i64 o.u, .int .i64 o.e, .int .i64 o.k, .int .i64 o.i, .int .i64 o.n]).low hb1
    have HB := Lib.hid (((Below.refl w.heap.size w).alloc (Nat.le_refl _) (.cells #[.int .i64 o.u, .int .i64 o.e, .int .i64 o.k, .int .i64 o.i, .int .i64 o.n] 29)).trans (hb1.mono (by simp)))
    have x0 : w1.cell? ⟨w.heap.size, 0, none⟩ = some (.int .i64 o.u) := hx.cell 0
    have x1 : w1.cell? ⟨w.heap.size, 1, none⟩ = some (.int .i64 o.e) := hx.cell 1
    have x2 : w1.cell? ⟨w.heap.size, 2, none⟩ = some (.int .i64 o.k) := hx.cell 2
    have x3 : w1.cell? ⟨w.heap.size, 3, none⟩ = some (.int .i64 o.i) := hx.cell 3
    have x4 : w1.cell? ⟨w.heap.size, 4, none⟩ = some (.int .i64 o.n) := hx.cell 4
    clear hx hb1
    go_wp2_with fail
    refine (five_any _ _ _ _ _ _ H64.out.1 H64.out.2.1 H64.out.2.2.1 H64.out.2.2.2.1 H64.out.2.2.2.2).mono ?_
    rintro e w2 ⟨A, c, rfl, hown, hb2⟩
    have HO := Lib.hid hown
    have HB2 := Lib.hid hb2
    clear hown hb2
    go_wp2
    go_ret
    rw [HP.out]
    exact ⟨A, c, rfl, own_base HO.out HB.out.size, HB.out.trans (HB2.out.mono HB.out.size)⟩

set_option maxRecDepth 100000 in
theorem rsay_any (s : Or.S) (w : World) (h64 : Or.S64 s) :
    Calls Try.prog 20 #[.agg #[.int .i64 s.u, .int .i64 s.q, .int .i64 s.s, .int .i64 s.n, .int .i64 s.e]] w fun e w' => ∃ A c, e = .returned (.slice A (Or.say s).length c) ∧ Own8 w' w.heap.size A c (Or.say s) ∧ Below w.heap.size w w' := by
  have H64 := Lib.hid h64
  clear h64
  cases hv : Or.fit s with
  | false =>
    have HP := Lib.hid (show Or.say s = [] by unfold Or.say; rw [hv]; rfl)
    go_enter Try.func20, Try.ntmps20
    go_wp2_with (go_at_call 35; refine (fit_any s _).mono ?_; rw [hv]; rintro e w1 ⟨rfl, hb1⟩)
    go_ret
    rw [HP.out]
    exact ⟨none, 0, rfl, World.ownsRow_nil _ _ _ _, ((Below.refl _ _).alloc (Nat.le_refl _) _).trans (hb1.mono (by simp))⟩
  | true =>
    have HP := Lib.hid (show Or.say s = Wr.encs [s.u, s.q, s.s, s.n, s.e] by unfold Or.say; rw [hv]; rfl)
    have HV := Lib.hid hv
    clear hv
    go_enter Try.func20, Try.ntmps20
    go_wp2_with fail
    refine (fit_any s _).mono ?_
    rw [HV.out]
    rintro e w1 ⟨rfl, hb1⟩
    have hx := (Blk.new w 45 #[.int .i64 s.u, .int .i64 s.q, .int .i64 s.s, .int .i64 s.n, .int .i64 s.e]).low hb1
    have HB := Lib.hid (((Below.refl w.heap.size w).alloc (Nat.le_refl _) (.cells #[.int .i64 s.u, .int .i64 s.q, .int .i64 s.s, .int .i64 s.n, .int .i64 s.e] 45)).trans (hb1.mono (by simp)))
    have x0 : w1.cell? ⟨w.heap.size, 0, none⟩ = some (.int .i64 s.u) := hx.cell 0
    have x1 : w1.cell? ⟨w.heap.size, 1, none⟩ = some (.int .i64 s.q) := hx.cell 1
    have x2 : w1.cell? ⟨w.heap.size, 2, none⟩ = some (.int .i64 s.s) := hx.cell 2
    have x3 : w1.cell? ⟨w.heap.size, 3, none⟩ = some (.int .i64 s.n) := hx.cell 3
    have x4 : w1.cell? ⟨w.heap.size, 4, none⟩ = some (.int .i64 s.e) := hx.cell 4
    clear hx hb1
    go_wp2_with fail
    refine (five_any _ _ _ _ _ _ H64.out.1 H64.out.2.1 H64.out.2.2.1 H64.out.2.2.2.1 H64.out.2.2.2.2).mono ?_
    rintro e w2 ⟨A, c, rfl, hown, hb2⟩
    have HO := Lib.hid hown
    have HB2 := Lib.hid hb2
    clear hown hb2
    go_wp2
    go_ret
    rw [HP.out]
    exact ⟨A, c, rfl, own_base HO.out HB.out.size, HB.out.trans (HB2.out.mono HB.out.size)⟩
end Go.Proofs.Ytikbenngbaicoaa
