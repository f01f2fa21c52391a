/- Layer 28: the walks of Latest, Marshal and Restore. -/
import Derived.Test.YtikbenngbaicoaaOrF
namespace Go.Proofs.Ytikbenngbaicoaa
set_option linter.unusedSimpArgs false
set_option linter.unusedVariables false
open Go.RowKit

set_option maxRecDepth 100000 in
theorem latest_any (p : Nat) (f : Or.F) (w : World) (h : FenceAt w p f) :
    Calls Try.prog 14 #[.pointer (some ⟨p, 0, none⟩)] w fun e w' => e = .returned (.tuple #[.agg #[.int .i64 f.o.u, .int .i64 f.o.e, .int .i64 f.o.k, .int .i64 f.o.i, .int .i64 f.o.n], .bool f.a]) ∧ Below w.heap.size w w' := by
  have hpl := Blk.lt h
  have HF := Lib.hid h
  have f1 : w.cell? ⟨p, 1, none⟩ = some (.int .i64 f.o.u) := Blk.cell h 1
  have f2 : w.cell? ⟨p, 2, none⟩ = some (.int .i64 f.o.e) := Blk.cell h 2
  have f3 : w.cell? ⟨p, 3, none⟩ = some (.int .i64 f.o.k) := Blk.cell h 3
  have f4 : w.cell? ⟨p, 4, none⟩ = some (.int .i64 f.o.i) := Blk.cell h 4
  have f5 : w.cell? ⟨p, 5, none⟩ = some (.int .i64 f.o.n) := Blk.cell h 5
  have f6 : w.cell? ⟨p, 6, none⟩ = some (.bool f.a) := Blk.cell h 6
  clear h
  go_enter Try.func14, Try.ntmps14
  go_wp2
  go_region
  go_wp2
  exact bodyPost_ret (v := .tuple #[.agg #[.int .i64 f.o.u, .int .i64 f.o.e, .int .i64 f.o.k, .int .i64 f.o.i, .int .i64 f.o.n], .bool f.a]) (by simp [results, Try.results14, go_sem]) rfl ⟨rfl, ((Below.refl _ _).alloc (Nat.le_refl _) _).drew⟩

namespace Or
def marsh (f : F) : List Int := if f.a then put f.o else []
def rest (u : Int) (l : List Int) : Bool := okO l && (decO l).u == u
end Or

set_option maxRecDepth 100000 in
theorem marshal_any (p : Nat) (f : Or.F) (w : World) (h : FenceAt w p f) (h64 : Or.O64 f.o) :
    Calls Try.prog 15 #[.pointer (some ⟨p, 0, none⟩)] w fun e w' => ∃ A c, e = .returned (.slice A (Or.marsh f).length c) ∧ Own8 w' w.heap.size A c (Or.marsh f) ∧ Below w.heap.size w w' := by
  have f1 : w.cell? ⟨p, 1, none⟩ = some (.int .i64 f.o.u) := Blk.cell h 1
  have f2 : w.cell? ⟨p, 2, none⟩ = some (.int .i64 f.o.e) := Blk.cell h 2
  have f3 : w.cell? ⟨p, 3, none⟩ = some (.int .i64 f.o.k) := Blk.cell h 3
  have f4 : w.cell? ⟨p, 4, none⟩ = some (.int .i64 f.o.i) := Blk.cell h 4
  have f5 : w.cell? ⟨p, 5, none⟩ = some (.int .i64 f.o.n) := Blk.cell h 5
  have f6 : w.cell? ⟨p, 6, none⟩ = some (.bool f.a) := Blk.cell h 6
  have H64 := Lib.hid h64
  clear h h64
  cases ha : f.a with
  | false =>
    rw [ha] at f6
    have HM := Lib.hid (show Or.marsh f = [] by unfold Or.marsh; rw [ha]; rfl)
    clear ha
    go_enter Try.func15, Try.ntmps15
    go_wp2
    go_ret
    rw [HM.out]
    exact ⟨none, 0, rfl, World.ownsRow_nil _ _ _ _, Below.refl _ _⟩
  | true =>
    rw [ha] at f6
    have HM := Lib.hid (show Or.marsh f = Or.put f.o by unfold Or.marsh; rw [ha]; rfl)
    clear ha
    go_enter Try.func15, Try.ntmps15
    go_wp2_with fail
    refine (encodeOrder_any f.o _ H64.out).mono ?_
    rintro e w1 ⟨A, c, rfl, hown, hb⟩
    have HO := Lib.hid hown
    have HB := Lib.hid hb
    clear hown hb
    go_wp2
    go_ret
    rw [HM.out]
    exact ⟨A, c, rfl, HO.out, HB.out⟩

theorem restore_unit (u : Int) (A : Option Addr) (l : List Int) (c : Nat) (w : World) (hu : Or.vu u = false) :
    Calls Try.prog 27 #[.int .i64 u, .slice A l.length c] w fun e w' => e = .returned (.tuple #[.pointer none, .int .i64 1]) ∧ w = w' := by
  have HU := Lib.hid hu
  clear hu
  go_enter Try.func27, Try.ntmps27
  go_wp2_with (go_at_call 10; refine (newFence_bad _ _ HU.out).mono ?_; rintro e w' ⟨rfl, rfl⟩)
  go_ret2
  exact ⟨rfl, rfl⟩
theorem restore_empty (u : Int) (A : Option Addr) (c : Nat) (w : World) (hu : Or.vu u = true) :
    Calls Try.prog 27 #[.int .i64 u, .slice A 0 c] w fun e w' => e = .returned (.tuple #[.pointer (some ⟨w.heap.size, 0, none⟩), .int .i64 0]) ∧ FenceAt w' w.heap.size (Or.new u) ∧ Below w.heap.size w w' := by
  have HU := Lib.hid hu
  clear hu
  go_enter Try.func27, Try.ntmps27
  go_wp2_with (go_at_call 10; refine (newFence_ok _ _ HU.out).mono ?_; rintro e w1 ⟨rfl, hf, hb⟩; have HF := Lib.hid hf; have HB := Lib.hid hb; clear hf hb)
  go_ret2
  exact ⟨rfl, HF.out, HB.out⟩

theorem orE0 {b : Bool} (h : b = true) : Or.decE b = 0 := by rw [h]; rfl
set_option maxRecDepth 100000 in
set_option maxHeartbeats 1000000 in
theorem restore_any (u : Int) (A : Option Addr) (l : List Int) (c : Nat) (w : World) (hu : Or.vu u = true) (hl0 : 0 < l.length) (hr : Rd w A (l.map (.int .u8))) (hb : Wr.Bts l) (hl : l.length ≤ 1000000) :
    Calls Try.prog 27 #[.int .i64 u, .slice A l.length c] w fun e w' => (Or.rest u l = false → e = .returned (.tuple #[.pointer none, .int .i64 2])) ∧ (Or.rest u l = true → e = .returned (.tuple #[.pointer (some ⟨w.heap.size, 0, none⟩), .int .i64 0]) ∧ FenceAt w' w.heap.size ⟨u, Or.decO l, true⟩) ∧ Below w.heap.size w w' := by
  have HU := Lib.hid hu
  have HR := Lib.hid hr
  have HBT := Lib.hid hb
  have hl0' : ((l.length : Int) == 0) = false := by rw [beq_eq_false_iff_ne]; omega
  clear hu hr hb
  obtain ⟨ok, hok⟩ : ∃ b, Or.okO l = b := ⟨_, rfl⟩
  obtain ⟨o, ho⟩ : ∃ o, Or.decO l = o := ⟨_, rfl⟩
  have HRS := Lib.hid (show Or.rest u l = (ok && o.u == u) by unfold Or.rest; rw [hok, ho])
  have HDO := Lib.hid ho
  have HOK := Lib.hid hok
  clear hok ho
  by_cases hc : ok = true ∧ o.u = u
  · obtain ⟨rfl, hu⟩ := hc
    have hq : (o.u != u) = false := by simpa using hu
    have HT := Lib.hid (show Or.rest u l = true by rw [HRS.out, hu]; simp)
    clear hu
    go_enter Try.func27, Try.ntmps27
    go_wp2_with fail
    refine (newFence_ok _ _ HU.out).mono ?_
    rintro e w1 ⟨rfl, hf, hb⟩
    have HF1 := Lib.hid hf
    have HB1 := Lib.hid hb
    clear hf hb
    go_wp2_with fail
    refine (decodeOrder_any A l c _ (HR.out.low HB1.out) HBT.out hl).mono ?_
    rw [HOK.out, HDO.out]
    rintro e w2 ⟨rfl, hb⟩
    have HF2 := Lib.hid (HF1.out.low hb)
    have HB2 := Lib.hid (HB1.out.trans (hb.mono HB1.out.size))
    clear hb
    have HF3 := Lib.hid (FenceAt.low HF2.out ((Below.refl w2.heap.size w2).alloc (Nat.le_refl _) (.cells #[.int .i64 o.u, .int .i64 o.e, .int .i64 o.k, .int .i64 o.i, .int .i64 o.n] 29)))
    have HB3 := Lib.hid (HB2.out.alloc HB2.out.size (.cells #[.int .i64 o.u, .int .i64 o.e, .int .i64 o.k, .int .i64 o.i, .int .i64 o.n] 29))
    unfold Or.decE
    have f1 : w2.cell? ⟨w.heap.size, 1, none⟩ = some (.int .i64 0) := Blk.cell HF2.out 1
    have z1 : w2.frozen? ⟨w.heap.size, 1, none⟩ = false := Blk.frozen HF2.out 1
    have f2 : w2.cell? ⟨w.heap.size, 2, none⟩ = some (.int .i64 0) := Blk.cell HF2.out 2
    have z2 : w2.frozen? ⟨w.heap.size, 2, none⟩ = false := Blk.frozen HF2.out 2
    have f3 : w2.cell? ⟨w.heap.size, 3, none⟩ = some (.int .i64 0) := Blk.cell HF2.out 3
    have z3 : w2.frozen? ⟨w.heap.size, 3, none⟩ = false := Blk.frozen HF2.out 3
    have f4 : w2.cell? ⟨w.heap.size, 4, none⟩ = some (.int .i64 0) := Blk.cell HF2.out 4
    have z4 : w2.frozen? ⟨w.heap.size, 4, none⟩ = false := Blk.frozen HF2.out 4
    have f5 : w2.cell? ⟨w.heap.size, 5, none⟩ = some (.int .i64 0) := Blk.cell HF2.out 5
    have z5 : w2.frozen? ⟨w.heap.size, 5, none⟩ = false := Blk.frozen HF2.out 5
    have f6 : w2.cell? ⟨w.heap.size, 6, none⟩ = some (.bool false) := Blk.cell HF2.out 6
    have z6 : w2.frozen? ⟨w.heap.size, 6, none⟩ = false := Blk.frozen HF2.out 6
    have hzl := Blk.lt HF2.out
    go_wp2
    go_ret2
    refine ⟨fun h => (by rw [HT.out] at h; cases h), fun _ => ⟨rfl, ?_⟩, ?_⟩
    · rw [HDO.out]
      exact ((((((Blk.set_ HF2.out 1 (.int .i64 o.u)).set_ 2 (.int .i64 o.e)).set_ 3 (.int .i64 o.k)).set_ 4 (.int .i64 o.i)).set_ 5 (.int .i64 o.n)).set_ 6 (.bool true)).alloc _
    · have hb := ((((((HB2.out.setCell (Nat.le_refl _) (.int .i64 o.u) (p := ⟨w.heap.size, 1, none⟩)).setCell (Nat.le_refl _) (.int .i64 o.e) (p := ⟨w.heap.size, 2, none⟩)).setCell (Nat.le_refl _) (.int .i64 o.k) (p := ⟨w.heap.size, 3, none⟩)).setCell (Nat.le_refl _) (.int .i64 o.i) (p := ⟨w.heap.size, 4, none⟩)).setCell (Nat.le_refl _) (.int .i64 o.n) (p := ⟨w.heap.size, 5, none⟩)).setCell (Nat.le_refl _) (.bool true) (p := ⟨w.heap.size, 6, none⟩))
      exact hb.alloc hb.size _
  · have HT := Lib.hid (show Or.rest u l = false by
      rw [HRS.out]
      cases ok with
      | false => rfl
      | true => rw [Bool.true_and, beq_eq_false_iff_ne]; exact fun h => hc ⟨rfl, h⟩)
    have hq : ok = true → (o.u != u) = true := fun h => by simpa using fun h2 => hc ⟨h, h2⟩
    clear hc
    cases ok with
    | true =>
      have hq := hq rfl
      go_enter Try.func27, Try.ntmps27
      go_wp2_with fail
      refine (newFence_ok _ _ HU.out).mono ?_
      rintro e w1 ⟨rfl, hf, hb⟩
      have HF1 := Lib.hid hf
      have HB1 := Lib.hid hb
      clear hf hb
      go_wp2_with fail
      refine (decodeOrder_any A l c _ (HR.out.low HB1.out) HBT.out hl).mono ?_
      rw [HOK.out, HDO.out]
      rintro e w2 ⟨rfl, hb⟩
      have HF2 := Lib.hid (HF1.out.low hb)
      have HB2 := Lib.hid (HB1.out.trans (hb.mono HB1.out.size))
      clear hb
      unfold Or.decE
      go_wp2
      go_ret2
      exact ⟨fun _ => rfl, fun h => (by rw [HT.out] at h; cases h), HB2.out.alloc HB2.out.size _⟩
    | false =>
      clear hq
      go_enter Try.func27, Try.ntmps27
      go_wp2_with fail
      refine (newFence_ok _ _ HU.out).mono ?_
      rintro e w1 ⟨rfl, hf, hb⟩
      have HF1 := Lib.hid hf
      have HB1 := Lib.hid hb
      clear hf hb
      go_wp2_with fail
      refine (decodeOrder_any A l c _ (HR.out.low HB1.out) HBT.out hl).mono ?_
      rw [HOK.out, HDO.out]
      rintro e w2 ⟨rfl, hb⟩
      have HF2 := Lib.hid (HF1.out.low hb)
      have HB2 := Lib.hid (HB1.out.trans (hb.mono HB1.out.size))
      clear hb
      unfold Or.decE
      go_wp2
      go_ret2
      exact ⟨fun _ => rfl, fun h => (by rw [HT.out] at h; cases h), HB2.out.alloc HB2.out.size _⟩
end Go.Proofs.Ytikbenngbaicoaa
