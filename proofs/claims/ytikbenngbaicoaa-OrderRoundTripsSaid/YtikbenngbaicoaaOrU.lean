/- Layer 28: the walks of the reference's Bytes and Open. -/
import Derived.Test.YtikbenngbaicoaaOrT
namespace Go.Proofs.Ytikbenngbaicoaa
set_option linter.unusedSimpArgs false
set_option linter.unusedVariables false
open Go.RowKit

set_option maxRecDepth 100000 in
theorem rbytes_any (f : Or.F) (w : World) (h64 : Or.O64 f.o) :
    Calls Try.prog 16 #[.agg #[.int .i64 f.u, .int .i64 f.o.u, .int .i64 f.o.e, .int .i64 f.o.k, .int .i64 f.o.i, .int .i64 f.o.n]] w fun e w' => ∃ A c, e = .returned (.slice A (Or.put f.o).length c) ∧ Own8 w' w.heap.size A c (Or.put f.o) ∧ Below w.heap.size w w' := by
  have H64 := Lib.hid h64
  clear h64
  go_enter Try.func16, Try.ntmps16
  go_wp2_with fail
  refine (rput_any f.o _ H64.out).mono ?_
  rintro e w1 ⟨A, c, rfl, hown, hb⟩
  have HO := Lib.hid hown
  have HB := Lib.hid hb
  clear hown hb
  go_wp2
  go_ret
  exact ⟨A, c, rfl, own_base HO.out (by simp), ((Below.refl _ _).alloc (Nat.le_refl _) _).trans (HB.out.mono (by simp))⟩

set_option maxRecDepth 100000 in
theorem ropen_unit (n : Int) (A : Option Addr) (l : List Int) (c : Nat) (w : World) (hu : Or.vu n = false) :
    Calls Try.prog 11 #[.int .i64 n, .slice A l.length c] w fun e w' => e = .returned (.tuple #[.agg #[.int .i64 0, .int .i64 0, .int .i64 0, .int .i64 0, .int .i64 0, .int .i64 0], .int .i64 1]) ∧ Below w.heap.size w w' := by
  have HU := Lib.hid hu
  clear hu
  go_enter Try.func11, Try.ntmps11
  go_wp2_with (go_at_call 30; refine (rvu_any _ _).mono ?_; rw [HU.out]; rintro e w' ⟨rfl, rfl⟩)
  exact bodyPost_ret (v := .tuple #[.agg #[.int .i64 0, .int .i64 0, .int .i64 0, .int .i64 0, .int .i64 0, .int .i64 0], .int .i64 1]) (by simp [results, Try.results11, go_sem]) rfl ⟨rfl, ((Below.refl _ _).alloc (Nat.le_refl _) _)⟩
set_option maxRecDepth 100000 in
theorem ropen_empty (n : Int) (A : Option Addr) (c : Nat) (w : World) (hu : Or.vu n = true) :
    Calls Try.prog 11 #[.int .i64 n, .slice A 0 c] w fun e w' => e = .returned (.tuple #[.agg #[.int .i64 n, .int .i64 0, .int .i64 0, .int .i64 0, .int .i64 0, .int .i64 0], .int .i64 0]) ∧ Below w.heap.size w w' := by
  have HU := Lib.hid hu
  clear hu
  go_enter Try.func11, Try.ntmps11
  go_wp2_with (go_at_call 30; refine (rvu_any _ _).mono ?_; rw [HU.out]; rintro e w' ⟨rfl, rfl⟩)
  exact bodyPost_ret (v := .tuple #[.agg #[.int .i64 n, .int .i64 0, .int .i64 0, .int .i64 0, .int .i64 0, .int .i64 0], .int .i64 0]) (by simp [results, Try.results11, go_sem]) rfl ⟨rfl, ((Below.refl _ _).alloc (Nat.le_refl _) _)⟩

namespace Or
def opn (n : Int) (l : List Int) : F := if rest n l then ⟨n, decO l, true⟩ else ⟨0, zero, false⟩
end Or
set_option maxRecDepth 100000 in
set_option maxHeartbeats 1000000 in
theorem ropen_any (n : Int) (A : Option Addr) (l : List Int) (c : Nat) (w : World) (hu : Or.vu n = true) (hl0 : 0 < l.length) (hr : Rd w A (l.map (.int .u8))) (hb : Wr.Bts l) (hl : l.length ≤ 1000000) :
    Calls Try.prog 11 #[.int .i64 n, .slice A l.length c] w fun e w' => e = .returned (.tuple #[.agg #[.int .i64 (Or.opn n l).u, .int .i64 (Or.opn n l).o.u, .int .i64 (Or.opn n l).o.e, .int .i64 (Or.opn n l).o.k, .int .i64 (Or.opn n l).o.i, .int .i64 (Or.opn n l).o.n], .int .i64 (Or.decE (Or.rest n l))]) ∧ Below w.heap.size w w' := by
  have HU := Lib.hid hu
  have hl0' : ((l.length : Int) == 0) = false := by rw [beq_eq_false_iff_ne]; omega
  have HR := Lib.hid (hr.alloc (.cells #[.int .i64 0, .int .i64 0, .int .i64 0, .int .i64 0, .int .i64 0, .int .i64 0] 31))
  have HQ := Lib.hid (Blk.new w 31 #[.int .i64 0, .int .i64 0, .int .i64 0, .int .i64 0, .int .i64 0, .int .i64 0])
  have HB := Lib.hid ((Below.refl w.heap.size w).alloc (Nat.le_refl _) (.cells #[.int .i64 0, .int .i64 0, .int .i64 0, .int .i64 0, .int .i64 0, .int .i64 0] 31))
  have HBT := Lib.hid hb
  clear hu hr hb
  obtain ⟨ok, hok⟩ : ∃ b, Or.okO l = b := ⟨_, rfl⟩
  obtain ⟨o, ho⟩ : ∃ o, Or.decO l = o := ⟨_, rfl⟩
  have HRS := Lib.hid (show Or.rest n l = (ok && o.u == n) by unfold Or.rest; rw [hok, ho])
  have HDO := Lib.hid ho
  have HOK := Lib.hid hok
  clear hok ho
  by_cases hc : ok = true ∧ o.u = n
  · obtain ⟨rfl, hu⟩ := hc
    have hq : (o.u != n) = false := by simpa using hu
    have HT := Lib.hid (show Or.rest n l = true by rw [HRS.out, hu]; simp)
    have HP := Lib.hid (show Or.opn n l = ⟨n, o, true⟩ by unfold Or.opn; rw [HT.out, HDO.out]; rfl)
    rw [HP.out, HT.out]
    clear hu
    go_enter Try.func11, Try.ntmps11
    go_wp2_with (go_at_call 30; refine (rvu_any _ _).mono ?_; rw [HU.out]; rintro e w' ⟨rfl, rfl⟩)
    refine (rread_any A l c _ HR.out HBT.out hl).mono ?_
    rw [HOK.out, HDO.out]
    rintro e w2 ⟨rfl, h2⟩
    have HQ2 := Lib.hid (HQ.out.low h2)
    have HB2 := Lib.hid (HB.out.trans (h2.mono HB.out.size))
    have hq2 := HQ2.out.lt
    clear h2
    have q0 : w2.cell? ⟨w.heap.size, 0, none⟩ = some (.int .i64 0) := HQ2.out.cell 0
    have z0 : w2.frozen? ⟨w.heap.size, 0, none⟩ = false := HQ2.out.frozen 0
    have q1 : w2.cell? ⟨w.heap.size, 1, none⟩ = some (.int .i64 0) := HQ2.out.cell 1
    have z1 : w2.frozen? ⟨w.heap.size, 1, none⟩ = false := HQ2.out.frozen 1
    have q2 : w2.cell? ⟨w.heap.size, 2, none⟩ = some (.int .i64 0) := HQ2.out.cell 2
    have z2 : w2.frozen? ⟨w.heap.size, 2, none⟩ = false := HQ2.out.frozen 2
    have q3 : w2.cell? ⟨w.heap.size, 3, none⟩ = some (.int .i64 0) := HQ2.out.cell 3
    have z3 : w2.frozen? ⟨w.heap.size, 3, none⟩ = false := HQ2.out.frozen 3
    have q4 : w2.cell? ⟨w.heap.size, 4, none⟩ = some (.int .i64 0) := HQ2.out.cell 4
    have z4 : w2.frozen? ⟨w.heap.size, 4, none⟩ = false := HQ2.out.frozen 4
    have q5 : w2.cell? ⟨w.heap.size, 5, none⟩ = some (.int .i64 0) := HQ2.out.cell 5
    have z5 : w2.frozen? ⟨w.heap.size, 5, none⟩ = false := HQ2.out.frozen 5
    unfold Or.decE
    have HST := Lib.hid (store6 HQ2.out rfl (.int .i64 n) (.int .i64 o.u) (.int .i64 o.e) (.int .i64 o.k) (.int .i64 o.i) (.int .i64 o.n))
    go_wp2_with fail
    have r0 := HST.out.1.cell 0
    have r1 := HST.out.1.cell 1
    have r2 := HST.out.1.cell 2
    have r3 := HST.out.1.cell 3
    have r4 := HST.out.1.cell 4
    have r5 := HST.out.1.cell 5
    simp only [List.getElem?_toArray, List.getElem?_cons_zero, List.getElem?_cons_succ] at r0 r1 r2 r3 r4 r5
    exact bodyPost_ret (v := .tuple #[.agg #[.int .i64 n, .int .i64 o.u, .int .i64 o.e, .int .i64 o.k, .int .i64 o.i, .int .i64 o.n], .int .i64 0]) (by simp [results, Try.results11, go_sem, r0, r1, r2, r3, r4, r5, hq2, Nat.ne_of_lt hq2]) rfl ⟨rfl, by have hb := HB2.out.trans (HST.out.2.below (B := w.heap.size) (fun k e => by omega) HB2.out.size); exact hb.alloc hb.size _⟩
  · have HT := Lib.hid (show Or.rest n l = false by
      rw [HRS.out]
      cases ok with
      | false => rfl
      | true => rw [Bool.true_and, beq_eq_false_iff_ne]; exact fun h => hc ⟨rfl, h⟩)
    have HP := Lib.hid (show Or.opn n l = ⟨0, ⟨0, 0, 0, 0, 0⟩, false⟩ by unfold Or.opn; rw [HT.out]; rfl)
    have hq : ok = true → (o.u != n) = true := fun h => by simpa using fun h2 => hc ⟨h, h2⟩
    rw [HP.out, HT.out]
    clear hc
    cases ok with
    | true =>
      have hq := hq rfl
      go_enter Try.func11, Try.ntmps11
      go_wp2_with (go_at_call 30; refine (rvu_any _ _).mono ?_; rw [HU.out]; rintro e w' ⟨rfl, rfl⟩)
      refine (rread_any A l c _ HR.out HBT.out hl).mono ?_
      rw [HOK.out, HDO.out]
      rintro e w2 ⟨rfl, h2⟩
      have HQ2 := Lib.hid (HQ.out.low h2)
      have HB2 := Lib.hid (HB.out.trans (h2.mono HB.out.size))
      have hq2 := HQ2.out.lt
      clear h2
      have q0 : w2.cell? ⟨w.heap.size, 0, none⟩ = some (.int .i64 0) := HQ2.out.cell 0
      have z0 : w2.frozen? ⟨w.heap.size, 0, none⟩ = false := HQ2.out.frozen 0
      have q1 : w2.cell? ⟨w.heap.size, 1, none⟩ = some (.int .i64 0) := HQ2.out.cell 1
      have z1 : w2.frozen? ⟨w.heap.size, 1, none⟩ = false := HQ2.out.frozen 1
      have q2 : w2.cell? ⟨w.heap.size, 2, none⟩ = some (.int .i64 0) := HQ2.out.cell 2
      have z2 : w2.frozen? ⟨w.heap.size, 2, none⟩ = false := HQ2.out.frozen 2
      have q3 : w2.cell? ⟨w.heap.size, 3, none⟩ = some (.int .i64 0) := HQ2.out.cell 3
      have z3 : w2.frozen? ⟨w.heap.size, 3, none⟩ = false := HQ2.out.frozen 3
      have q4 : w2.cell? ⟨w.heap.size, 4, none⟩ = some (.int .i64 0) := HQ2.out.cell 4
      have z4 : w2.frozen? ⟨w.heap.size, 4, none⟩ = false := HQ2.out.frozen 4
      have q5 : w2.cell? ⟨w.heap.size, 5, none⟩ = some (.int .i64 0) := HQ2.out.cell 5
      have z5 : w2.frozen? ⟨w.heap.size, 5, none⟩ = false := HQ2.out.frozen 5
      unfold Or.decE
      have HST := Lib.hid (store6 HQ2.out rfl (.int .i64 0) (.int .i64 0) (.int .i64 0) (.int .i64 0) (.int .i64 0) (.int .i64 0))
      go_wp2_with fail
      have r0 := HST.out.1.cell 0
      have r1 := HST.out.1.cell 1
      have r2 := HST.out.1.cell 2
      have r3 := HST.out.1.cell 3
      have r4 := HST.out.1.cell 4
      have r5 := HST.out.1.cell 5
      simp only [List.getElem?_toArray, List.getElem?_cons_zero, List.getElem?_cons_succ] at r0 r1 r2 r3 r4 r5
      exact bodyPost_ret (v := .tuple #[.agg #[.int .i64 0, .int .i64 0, .int .i64 0, .int .i64 0, .int .i64 0, .int .i64 0], .int .i64 2]) (by simp [results, Try.results11, go_sem, r0, r1, r2, r3, r4, r5, hq2, Nat.ne_of_lt hq2]) rfl ⟨rfl, by have hb := HB2.out.trans (HST.out.2.below (B := w.heap.size) (fun k e => by omega) HB2.out.size); exact hb.alloc hb.size _⟩
    | false =>
      clear hq
      go_enter Try.func11, Try.ntmps11
      go_wp2_with (go_at_call 30; refine (rvu_any _ _).mono ?_; rw [HU.out]; rintro e w' ⟨rfl, rfl⟩)
      refine (rread_any A l c _ HR.out HBT.out hl).mono ?_
      rw [HOK.out, HDO.out]
      rintro e w2 ⟨rfl, h2⟩
      have HQ2 := Lib.hid (HQ.out.low h2)
      have HB2 := Lib.hid (HB.out.trans (h2.mono HB.out.size))
      have hq2 := HQ2.out.lt
      clear h2
      have q0 : w2.cell? ⟨w.heap.size, 0, none⟩ = some (.int .i64 0) := HQ2.out.cell 0
      have z0 : w2.frozen? ⟨w.heap.size, 0, none⟩ = false := HQ2.out.frozen 0
      have q1 : w2.cell? ⟨w.heap.size, 1, none⟩ = some (.int .i64 0) := HQ2.out.cell 1
      have z1 : w2.frozen? ⟨w.heap.size, 1, none⟩ = false := HQ2.out.frozen 1
      have q2 : w2.cell? ⟨w.heap.size, 2, none⟩ = some (.int .i64 0) := HQ2.out.cell 2
      have z2 : w2.frozen? ⟨w.heap.size, 2, none⟩ = false := HQ2.out.frozen 2
      have q3 : w2.cell? ⟨w.heap.size, 3, none⟩ = some (.int .i64 0) := HQ2.out.cell 3
      have z3 : w2.frozen? ⟨w.heap.size, 3, none⟩ = false := HQ2.out.frozen 3
      have q4 : w2.cell? ⟨w.heap.size, 4, none⟩ = some (.int .i64 0) := HQ2.out.cell 4
      have z4 : w2.frozen? ⟨w.heap.size, 4, none⟩ = false := HQ2.out.frozen 4
      have q5 : w2.cell? ⟨w.heap.size, 5, none⟩ = some (.int .i64 0) := HQ2.out.cell 5
      have z5 : w2.frozen? ⟨w.heap.size, 5, none⟩ = false := HQ2.out.frozen 5
      unfold Or.decE
      have HST := Lib.hid (store6 HQ2.out rfl (.int .i64 0) (.int .i64 0) (.int .i64 0) (.int .i64 0) (.int .i64 0) (.int .i64 0))
      go_wp2_with fail
      have r0 := HST.out.1.cell 0
      have r1 := HST.out.1.cell 1
      have r2 := HST.out.1.cell 2
      have r3 := HST.out.1.cell 3
      have r4 := HST.out.1.cell 4
      have r5 := HST.out.1.cell 5
      simp only [List.getElem?_toArray, List.getElem?_cons_zero, List.getElem?_cons_succ] at r0 r1 r2 r3 r4 r5
      exact bodyPost_ret (v := .tuple #[.agg #[.int .i64 0, .int .i64 0, .int .i64 0, .int .i64 0, .int .i64 0, .int .i64 0], .int .i64 2]) (by simp [results, Try.results11, go_sem, r0, r1, r2, r3, r4, r5, hq2, Nat.ne_of_lt hq2]) rfl ⟨rfl, by have hb := HB2.out.trans (HST.out.2.below (B := w.heap.size) (fun k e => by omega) HB2.out.size); exact hb.alloc hb.size _⟩
end Go.Proofs.Ytikbenngbaicoaa
