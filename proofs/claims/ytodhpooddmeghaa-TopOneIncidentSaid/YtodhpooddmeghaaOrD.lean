/- Layer 28: the walks of package order's decoders. -/
import Derived.Test.YtodhpooddmeghaaOrW
namespace Go.Proofs.Ytodhpooddmeghaa
set_option linter.unusedSimpArgs false
set_option linter.unusedVariables false
open Go.RowKit

namespace Wr
def rs : Nat → R → R
  | 0, r => r
  | k + 1, r => rd (rs k r)
def ks : Nat → R → R
  | 0, r => r
  | k + 1, r => rdK (ks k r)
theorem al_ks (r : R) : ∀ k, Al (rs k r) (ks k r)
  | 0 => Al.refl r
  | k + 1 => (al_ks r k).step
theorem rs_bts {r : R} (h : Bts r.l) : ∀ k, Bts (rs k r).l
  | 0 => h
  | k + 1 => rd_bts (rs_bts h k)
theorem ks_bts {r : R} (h : Bts r.l) : ∀ k, Bts (ks k r).l
  | 0 => h
  | k + 1 => rdK_bts (ks_bts h k)
end Wr
namespace Or
def ofR (l : List Int) : O := ⟨Wr.rdV (Wr.rs 0 ⟨l, 0⟩), Wr.rdV (Wr.rs 1 ⟨l, 0⟩), Wr.rdV (Wr.rs 2 ⟨l, 0⟩), Wr.rdV (Wr.rs 3 ⟨l, 0⟩), Wr.rdV (Wr.rs 4 ⟨l, 0⟩)⟩
def ofS (l : List Int) : S := ⟨Wr.rdV (Wr.rs 0 ⟨l, 0⟩), Wr.rdV (Wr.rs 1 ⟨l, 0⟩), Wr.rdV (Wr.rs 2 ⟨l, 0⟩), Wr.rdV (Wr.rs 3 ⟨l, 0⟩), Wr.rdV (Wr.rs 4 ⟨l, 0⟩)⟩
def okO (l : List Int) : Bool := Wr.fin (Wr.rs 5 ⟨l, 0⟩) == 0 && valid (ofR l)
def okS (l : List Int) : Bool := Wr.fin (Wr.rs 5 ⟨l, 0⟩) == 0 && fit (ofS l)
def decO (l : List Int) : O := if okO l then ofR l else ⟨0, 0, 0, 0, 0⟩
def decS (l : List Int) : S := if okS l then ofS l else ⟨0, 0, 0, 0, 0⟩
def decE (b : Bool) : Int := if b then 0 else 2
end Or
theorem store5 {w : World} {q : Nat} {t : TypeId} {a b c d e : Int} (h : Blk w q t (five a b c d e)) (v0 v1 v2 v3 v4 : Value) :
    Blk (((((w.setCell ⟨q, 0, none⟩ v0).setCell ⟨q, 1, none⟩ v1).setCell ⟨q, 2, none⟩ v2).setCell ⟨q, 3, none⟩ v3).setCell ⟨q, 4, none⟩ v4) q t #[v0, v1, v2, v3, v4] ∧
    Chg (· = q) w (((((w.setCell ⟨q, 0, none⟩ v0).setCell ⟨q, 1, none⟩ v1).setCell ⟨q, 2, none⟩ v2).setCell ⟨q, 3, none⟩ v3).setCell ⟨q, 4, none⟩ v4) :=
  ⟨((((h.set_ 0 v0).set_ 1 v1).set_ 2 v2).set_ 3 v3).set_ 4 v4,
   ((((Chg.setCell w ⟨q, 0, none⟩ v0).trans (Chg.setCell _ ⟨q, 1, none⟩ v1) (fun _ _ h => h)).trans (Chg.setCell _ ⟨q, 2, none⟩ v2) (fun _ _ h => h)).trans (Chg.setCell _ ⟨q, 3, none⟩ v3) (fun _ _ h => h)).trans (Chg.setCell _ ⟨q, 4, none⟩ v4) (fun _ _ h => h)⟩

set_option maxRecDepth 100000 in
set_option maxHeartbeats 1000000 in
theorem decodeOrder_any (A : Option Addr) (l : List Int) (c : Nat) (w : World) (hr : Rd w A (l.map (.int .u8))) (hb : Wr.Bts l) (hl : l.length ≤ 1000000) :
    Calls Try.prog 15 #[.slice A l.length c] w fun e w' => e = .returned (.tuple #[.agg #[.int .i64 (Or.decO l).u, .int .i64 (Or.decO l).e, .int .i64 (Or.decO l).k, .int .i64 (Or.decO l).i, .int .i64 (Or.decO l).n], .int .i64 (Or.decE (Or.okO l))]) ∧ Below w.heap.size w w' := by
  have HBT := Lib.hid hb
  have HR := Lib.hid (hr.alloc (.cells (five 0 0 0 0 0) 50))
  have HQ := Lib.hid (Blk.new w 50 (five 0 0 0 0 0))
  have HB := Lib.hid ((Below.refl w.heap.size w).alloc (Nat.le_refl _) (.cells (five 0 0 0 0 0) 50))
  clear hr hb
  go_enter Try.func15, Try.ntmps15
  go_wp2_with fail
  refine (newReader_any _ A l c HR.out hl).mono ?_
  rintro e w0 ⟨p, rfl, hp, h1, h2⟩
  have HR0 := Lib.hid (show RdAt w0 p (Wr.rs 0 ⟨l, 0⟩) from h1)
  have HQ0 := Lib.hid (HQ.out.low h2)
  have HB0 := Lib.hid (HB.out.trans (h2.mono HB.out.size))
  have hpq : w.heap.size < p := by simp at hp; omega
  clear h1 h2 hp
  go_wp2_with fail
  refine (readInt_any _ p _ HR0.out (Wr.rs_bts HBT.out 0)).mono ?_
  rintro e w1 ⟨rfl, h1, h2⟩
  have HR1 := Lib.hid (show RdAt w1 p (Wr.rs 1 ⟨l, 0⟩) from h1)
  have HQ1 := Lib.hid (HQ0.out.chg h2 (by omega))
  have HB1 := Lib.hid (HB0.out.trans (h2.below (B := w.heap.size) (fun k e => by omega) HB0.out.size))
  clear h1 h2
  go_wp2_with fail
  refine (readInt_any _ p _ HR1.out (Wr.rs_bts HBT.out 1)).mono ?_
  rintro e w2 ⟨rfl, h1, h2⟩
  have HR2 := Lib.hid (show RdAt w2 p (Wr.rs 2 ⟨l, 0⟩) from h1)
  have HQ2 := Lib.hid (HQ1.out.chg h2 (by omega))
  have HB2 := Lib.hid (HB1.out.trans (h2.below (B := w.heap.size) (fun k e => by omega) HB1.out.size))
  clear h1 h2
  go_wp2_with fail
  refine (readInt_any _ p _ HR2.out (Wr.rs_bts HBT.out 2)).mono ?_
  rintro e w3 ⟨rfl, h1, h2⟩
  have HR3 := Lib.hid (show RdAt w3 p (Wr.rs 3 ⟨l, 0⟩) from h1)
  have HQ3 := Lib.hid (HQ2.out.chg h2 (by omega))
  have HB3 := Lib.hid (HB2.out.trans (h2.below (B := w.heap.size) (fun k e => by omega) HB2.out.size))
  clear h1 h2
  go_wp2_with fail
  refine (readInt_any _ p _ HR3.out (Wr.rs_bts HBT.out 3)).mono ?_
  rintro e w4 ⟨rfl, h1, h2⟩
  have HR4 := Lib.hid (show RdAt w4 p (Wr.rs 4 ⟨l, 0⟩) from h1)
  have HQ4 := Lib.hid (HQ3.out.chg h2 (by omega))
  have HB4 := Lib.hid (HB3.out.trans (h2.below (B := w.heap.size) (fun k e => by omega) HB3.out.size))
  clear h1 h2
  go_wp2_with fail
  refine (readInt_any _ p _ HR4.out (Wr.rs_bts HBT.out 4)).mono ?_
  rintro e w5 ⟨rfl, h1, h2⟩
  have HR5 := Lib.hid (show RdAt w5 p (Wr.rs 5 ⟨l, 0⟩) from h1)
  have HQ5 := Lib.hid (HQ4.out.chg h2 (by omega))
  have HB5 := Lib.hid (HB4.out.trans (h2.below (B := w.heap.size) (fun k e => by omega) HB4.out.size))
  clear h1 h2
  go_wp2_with fail
  have HX := Lib.hid (Blk.new w5 50 #[.int .i64 (Wr.rdV (Wr.rs 0 ⟨l, 0⟩)), .int .i64 (Wr.rdV (Wr.rs 1 ⟨l, 0⟩)), .int .i64 (Wr.rdV (Wr.rs 2 ⟨l, 0⟩)), .int .i64 (Wr.rdV (Wr.rs 3 ⟨l, 0⟩)), .int .i64 (Wr.rdV (Wr.rs 4 ⟨l, 0⟩))])
  have HR6 := Lib.hid (HR5.out.low ((Below.refl _ _).alloc (Nat.le_refl _) (.cells #[.int .i64 (Wr.rdV (Wr.rs 0 ⟨l, 0⟩)), .int .i64 (Wr.rdV (Wr.rs 1 ⟨l, 0⟩)), .int .i64 (Wr.rdV (Wr.rs 2 ⟨l, 0⟩)), .int .i64 (Wr.rdV (Wr.rs 3 ⟨l, 0⟩)), .int .i64 (Wr.rdV (Wr.rs 4 ⟨l, 0⟩))] 50)))
  have HQ6 := Lib.hid (HQ5.out.alloc (.cells #[.int .i64 (Wr.rdV (Wr.rs 0 ⟨l, 0⟩)), .int .i64 (Wr.rdV (Wr.rs 1 ⟨l, 0⟩)), .int .i64 (Wr.rdV (Wr.rs 2 ⟨l, 0⟩)), .int .i64 (Wr.rdV (Wr.rs 3 ⟨l, 0⟩)), .int .i64 (Wr.rdV (Wr.rs 4 ⟨l, 0⟩))] 50))
  have HB6 := Lib.hid (HB5.out.alloc HB5.out.size (.cells #[.int .i64 (Wr.rdV (Wr.rs 0 ⟨l, 0⟩)), .int .i64 (Wr.rdV (Wr.rs 1 ⟨l, 0⟩)), .int .i64 (Wr.rdV (Wr.rs 2 ⟨l, 0⟩)), .int .i64 (Wr.rdV (Wr.rs 3 ⟨l, 0⟩)), .int .i64 (Wr.rdV (Wr.rs 4 ⟨l, 0⟩))] 50))
  have hq5 := HQ5.out.lt
  refine (finish_any _ p _ HR6.out).mono ?_
  rintro e w6 ⟨rfl, rfl⟩
  obtain ⟨v0, hv0⟩ : ∃ v0, Wr.rdV (Wr.rs 0 ⟨l, 0⟩) = v0 := ⟨_, rfl⟩
  obtain ⟨v1, hv1⟩ : ∃ v1, Wr.rdV (Wr.rs 1 ⟨l, 0⟩) = v1 := ⟨_, rfl⟩
  obtain ⟨v2, hv2⟩ : ∃ v2, Wr.rdV (Wr.rs 2 ⟨l, 0⟩) = v2 := ⟨_, rfl⟩
  obtain ⟨v3, hv3⟩ : ∃ v3, Wr.rdV (Wr.rs 3 ⟨l, 0⟩) = v3 := ⟨_, rfl⟩
  obtain ⟨v4, hv4⟩ : ∃ v4, Wr.rdV (Wr.rs 4 ⟨l, 0⟩) = v4 := ⟨_, rfl⟩
  have HOF := Lib.hid (show Or.ofR l = ⟨v0, v1, v2, v3, v4⟩ by unfold Or.ofR; rw [hv0, hv1, hv2, hv3, hv4])
  rw [hv0, hv1, hv2, hv3, hv4] at HX HR6 HQ6 HB6 ⊢
  clear hv0 hv1 hv2 hv3 hv4
  obtain ⟨w6, hw6⟩ : ∃ w6, w5.alloc (.cells #[.int .i64 v0, .int .i64 v1, .int .i64 v2, .int .i64 v3, .int .i64 v4] 50) = w6 := ⟨_, rfl⟩
  rw [hw6] at HX HR6 HQ6 HB6 ⊢
  clear hw6
  by_cases hf : Wr.fin (Wr.rs 5 ⟨l, 0⟩) = 0
  · have hfq : (Wr.fin (Wr.rs 5 ⟨l, 0⟩) != 0) = false := by simpa using hf
    have HF := Lib.hid (show (Wr.fin (Wr.rs 5 ⟨l, 0⟩) == 0) = true by simpa using hf)
    clear hf
    have hx0 := HX.out.cell 0
    have hx1 := HX.out.cell 1
    have hx2 := HX.out.cell 2
    have hx3 := HX.out.cell 3
    have hx4 := HX.out.cell 4
    simp [five] at hx0 hx1 hx2 hx3 hx4
    go_wp2_with fail
    refine (valid_any ⟨v0, v1, v2, v3, v4⟩ _).mono ?_
    rintro e w7 ⟨rfl, h7⟩
    have HQ7 := Lib.hid (HQ6.out.low h7)
    have HB7 := Lib.hid (HB6.out.trans (h7.mono HB6.out.size))
    have HX7 := Lib.hid (HX.out.low h7)
    clear h7 hx0 hx1 hx2 hx3 hx4
    have hx0 := HX7.out.cell 0
    have hx1 := HX7.out.cell 1
    have hx2 := HX7.out.cell 2
    have hx3 := HX7.out.cell 3
    have hx4 := HX7.out.cell 4
    simp [five] at hx0 hx1 hx2 hx3 hx4
    cases hv : Or.valid ⟨v0, v1, v2, v3, v4⟩ with
    | true =>
      have HOK := Lib.hid (show Or.okO l = true by unfold Or.okO; rw [HF.out, HOF.out, hv]; rfl)
      have HDEC := Lib.hid (show Or.decO l = ⟨v0, v1, v2, v3, v4⟩ by unfold Or.decO; rw [HOK.out, ← HOF.out]; rfl)
      clear hv
      have q0 := HQ7.out.cell 0
      have q1 := HQ7.out.cell 1
      have q2 := HQ7.out.cell 2
      have q3 := HQ7.out.cell 3
      have q4 := HQ7.out.cell 4
      have z0 := HQ7.out.frozen 0
      have z1 := HQ7.out.frozen 1
      have z2 := HQ7.out.frozen 2
      have z3 := HQ7.out.frozen 3
      have z4 := HQ7.out.frozen 4
      simp [five] at q0 q1 q2 q3 q4
      have HST := Lib.hid (store5 HQ7.out (.int .i64 v0) (.int .i64 v1) (.int .i64 v2) (.int .i64 v3) (.int .i64 v4))
      go_wp2_with fail
      have r0 := HST.out.1.cell 0
      have r1 := HST.out.1.cell 1
      have r2 := HST.out.1.cell 2
      have r3 := HST.out.1.cell 3
      have r4 := HST.out.1.cell 4
      simp only [List.getElem?_toArray, List.getElem?_cons_zero, List.getElem?_cons_succ] at r0 r1 r2 r3 r4
      exact bodyPost_ret (v := .tuple #[.agg #[.int .i64 v0, .int .i64 v1, .int .i64 v2, .int .i64 v3, .int .i64 v4], .int .i64 0]) (by simp [results, Try.results15, go_sem, r0, r1, r2, r3, r4]) rfl ⟨by rw [HDEC.out, HOK.out]; rfl, HB7.out.trans (HST.out.2.below (fun k e => by omega) HB7.out.size)⟩
    | false =>
      have HOK := Lib.hid (show Or.okO l = false by unfold Or.okO; rw [HF.out, HOF.out, hv]; rfl)
      have HDEC := Lib.hid (show Or.decO l = ⟨0, 0, 0, 0, 0⟩ by unfold Or.decO; rw [HOK.out]; rfl)
      clear hv
      have q0 := HQ7.out.cell 0
      have q1 := HQ7.out.cell 1
      have q2 := HQ7.out.cell 2
      have q3 := HQ7.out.cell 3
      have q4 := HQ7.out.cell 4
      have z0 := HQ7.out.frozen 0
      have z1 := HQ7.out.frozen 1
      have z2 := HQ7.out.frozen 2
      have z3 := HQ7.out.frozen 3
      have z4 := HQ7.out.frozen 4
      simp [five] at q0 q1 q2 q3 q4
      have HST := Lib.hid (store5 HQ7.out (.int .i64 0) (.int .i64 0) (.int .i64 0) (.int .i64 0) (.int .i64 0))
      go_wp2_with fail
      have r0 := HST.out.1.cell 0
      have r1 := HST.out.1.cell 1
      have r2 := HST.out.1.cell 2
      have r3 := HST.out.1.cell 3
      have r4 := HST.out.1.cell 4
      simp only [List.getElem?_toArray, List.getElem?_cons_zero, List.getElem?_cons_succ] at r0 r1 r2 r3 r4
      exact bodyPost_ret (v := .tuple #[.agg #[.int .i64 0, .int .i64 0, .int .i64 0, .int .i64 0, .int .i64 0], .int .i64 2]) (by simp [results, Try.results15, go_sem, r0, r1, r2, r3, r4]) rfl ⟨by rw [HDEC.out, HOK.out]; rfl, HB7.out.trans (HST.out.2.below (fun k e => by omega) HB7.out.size)⟩
  · have hfq : (Wr.fin (Wr.rs 5 ⟨l, 0⟩) != 0) = true := by simpa using hf
    have HOK := Lib.hid (show Or.okO l = false by unfold Or.okO; rw [show (Wr.fin (Wr.rs 5 ⟨l, 0⟩) == 0) = false by simpa using hf]; rfl)
    have HDEC := Lib.hid (show Or.decO l = ⟨0, 0, 0, 0, 0⟩ by unfold Or.decO; rw [HOK.out]; rfl)
    clear hf
    have q0 := HQ6.out.cell 0
    have q1 := HQ6.out.cell 1
    have q2 := HQ6.out.cell 2
    have q3 := HQ6.out.cell 3
    have q4 := HQ6.out.cell 4
    have z0 := HQ6.out.frozen 0
    have z1 := HQ6.out.frozen 1
    have z2 := HQ6.out.frozen 2
    have z3 := HQ6.out.frozen 3
    have z4 := HQ6.out.frozen 4
    simp [five] at q0 q1 q2 q3 q4
    have HST := Lib.hid (store5 HQ6.out (.int .i64 0) (.int .i64 0) (.int .i64 0) (.int .i64 0) (.int .i64 0))
    go_wp2_with fail
    have r0 := HST.out.1.cell 0
    have r1 := HST.out.1.cell 1
    have r2 := HST.out.1.cell 2
    have r3 := HST.out.1.cell 3
    have r4 := HST.out.1.cell 4
    simp only [List.getElem?_toArray, List.getElem?_cons_zero, List.getElem?_cons_succ] at r0 r1 r2 r3 r4
    exact bodyPost_ret (v := .tuple #[.agg #[.int .i64 0, .int .i64 0, .int .i64 0, .int .i64 0, .int .i64 0], .int .i64 2]) (by simp [results, Try.results15, go_sem, r0, r1, r2, r3, r4]) rfl ⟨by rw [HDEC.out, HOK.out]; rfl, HB6.out.trans (HST.out.2.below (fun k e => by omega) HB6.out.size)⟩

set_option maxRecDepth 100000 in
set_option maxHeartbeats 1000000 in
theorem decodeStatus_any (A : Option Addr) (l : List Int) (c : Nat) (w : World) (hr : Rd w A (l.map (.int .u8))) (hb : Wr.Bts l) (hl : l.length ≤ 1000000) :
    Calls Try.prog 19 #[.slice A l.length c] w fun e w' => e = .returned (.tuple #[.agg #[.int .i64 (Or.decS l).u, .int .i64 (Or.decS l).q, .int .i64 (Or.decS l).s, .int .i64 (Or.decS l).n, .int .i64 (Or.decS l).e], .int .i64 (Or.decE (Or.okS l))]) ∧ Below w.heap.size w w' := by
  have HBT := Lib.hid hb
  have HR := Lib.hid (hr.alloc (.cells (five 0 0 0 0 0) 60))
  have HQ := Lib.hid (Blk.new w 60 (five 0 0 0 0 0))
  have HB := Lib.hid ((Below.refl w.heap.size w).alloc (Nat.le_refl _) (.cells (five 0 0 0 0 0) 60))
  clear hr hb
  go_enter Try.func19, Try.ntmps19
  go_wp2_with fail
  refine (newReader_any _ A l c HR.out hl).mono ?_
  rintro e w0 ⟨p, rfl, hp, h1, h2⟩
  have HR0 := Lib.hid (show RdAt w0 p (Wr.rs 0 ⟨l, 0⟩) from h1)
  have HQ0 := Lib.hid (HQ.out.low h2)
  have HB0 := Lib.hid (HB.out.trans (h2.mono HB.out.size))
  have hpq : w.heap.size < p := by simp at hp; omega
  clear h1 h2 hp
  go_wp2_with fail
  refine (readInt_any _ p _ HR0.out (Wr.rs_bts HBT.out 0)).mono ?_
  rintro e w1 ⟨rfl, h1, h2⟩
  have HR1 := Lib.hid (show RdAt w1 p (Wr.rs 1 ⟨l, 0⟩) from h1)
  have HQ1 := Lib.hid (HQ0.out.chg h2 (by omega))
  have HB1 := Lib.hid (HB0.out.trans (h2.below (B := w.heap.size) (fun k e => by omega) HB0.out.size))
  clear h1 h2
  go_wp2_with fail
  refine (readInt_any _ p _ HR1.out (Wr.rs_bts HBT.out 1)).mono ?_
  rintro e w2 ⟨rfl, h1, h2⟩
  have HR2 := Lib.hid (show RdAt w2 p (Wr.rs 2 ⟨l, 0⟩) from h1)
  have HQ2 := Lib.hid (HQ1.out.chg h2 (by omega))
  have HB2 := Lib.hid (HB1.out.trans (h2.below (B := w.heap.size) (fun k e => by omega) HB1.out.size))
  clear h1 h2
  go_wp2_with fail
  refine (readInt_any _ p _ HR2.out (Wr.rs_bts HBT.out 2)).mono ?_
  rintro e w3 ⟨rfl, h1, h2⟩
  have HR3 := Lib.hid (show RdAt w3 p (Wr.rs 3 ⟨l, 0⟩) from h1)
  have HQ3 := Lib.hid (HQ2.out.chg h2 (by omega))
  have HB3 := Lib.hid (HB2.out.trans (h2.below (B := w.heap.size) (fun k e => by omega) HB2.out.size))
  clear h1 h2
  go_wp2_with fail
  refine (readInt_any _ p _ HR3.out (Wr.rs_bts HBT.out 3)).mono ?_
  rintro e w4 ⟨rfl, h1, h2⟩
  have HR4 := Lib.hid (show RdAt w4 p (Wr.rs 4 ⟨l, 0⟩) from h1)
  have HQ4 := Lib.hid (HQ3.out.chg h2 (by omega))
  have HB4 := Lib.hid (HB3.out.trans (h2.below (B := w.heap.size) (fun k e => by omega) HB3.out.size))
  clear h1 h2
  go_wp2_with fail
  refine (readInt_any _ p _ HR4.out (Wr.rs_bts HBT.out 4)).mono ?_
  rintro e w5 ⟨rfl, h1, h2⟩
  have HR5 := Lib.hid (show RdAt w5 p (Wr.rs 5 ⟨l, 0⟩) from h1)
  have HQ5 := Lib.hid (HQ4.out.chg h2 (by omega))
  have HB5 := Lib.hid (HB4.out.trans (h2.below (B := w.heap.size) (fun k e => by omega) HB4.out.size))
  clear h1 h2
  go_wp2_with fail
  have HX := Lib.hid (Blk.new w5 60 #[.int .i64 (Wr.rdV (Wr.rs 0 ⟨l, 0⟩)), .int .i64 (Wr.rdV (Wr.rs 1 ⟨l, 0⟩)), .int .i64 (Wr.rdV (Wr.rs 2 ⟨l, 0⟩)), .int .i64 (Wr.rdV (Wr.rs 3 ⟨l, 0⟩)), .int .i64 (Wr.rdV (Wr.rs 4 ⟨l, 0⟩))])
  have HR6 := Lib.hid (HR5.out.low ((Below.refl _ _).alloc (Nat.le_refl _) (.cells #[.int .i64 (Wr.rdV (Wr.rs 0 ⟨l, 0⟩)), .int .i64 (Wr.rdV (Wr.rs 1 ⟨l, 0⟩)), .int .i64 (Wr.rdV (Wr.rs 2 ⟨l, 0⟩)), .int .i64 (Wr.rdV (Wr.rs 3 ⟨l, 0⟩)), .int .i64 (Wr.rdV (Wr.rs 4 ⟨l, 0⟩))] 60)))
  have HQ6 := Lib.hid (HQ5.out.alloc (.cells #[.int .i64 (Wr.rdV (Wr.rs 0 ⟨l, 0⟩)), .int .i64 (Wr.rdV (Wr.rs 1 ⟨l, 0⟩)), .int .i64 (Wr.rdV (Wr.rs 2 ⟨l, 0⟩)), .int .i64 (Wr.rdV (Wr.rs 3 ⟨l, 0⟩)), .int .i64 (Wr.rdV (Wr.rs 4 ⟨l, 0⟩))] 60))
  have HB6 := Lib.hid (HB5.out.alloc HB5.out.size (.cells #[.int .i64 (Wr.rdV (Wr.rs 0 ⟨l, 0⟩)), .int .i64 (Wr.rdV (Wr.rs 1 ⟨l, 0⟩)), .int .i64 (Wr.rdV (Wr.rs 2 ⟨l, 0⟩)), .int .i64 (Wr.rdV (Wr.rs 3 ⟨l, 0⟩)), .int .i64 (Wr.rdV (Wr.rs 4 ⟨l, 0⟩))] 60))
  have hq5 := HQ5.out.lt
  refine (finish_any _ p _ HR6.out).mono ?_
  rintro e w6 ⟨rfl, rfl⟩
  obtain ⟨v0, hv0⟩ : ∃ v0, Wr.rdV (Wr.rs 0 ⟨l, 0⟩) = v0 := ⟨_, rfl⟩
  obtain ⟨v1, hv1⟩ : ∃ v1, Wr.rdV (Wr.rs 1 ⟨l, 0⟩) = v1 := ⟨_, rfl⟩
  obtain ⟨v2, hv2⟩ : ∃ v2, Wr.rdV (Wr.rs 2 ⟨l, 0⟩) = v2 := ⟨_, rfl⟩
  obtain ⟨v3, hv3⟩ : ∃ v3, Wr.rdV (Wr.rs 3 ⟨l, 0⟩) = v3 := ⟨_, rfl⟩
  obtain ⟨v4, hv4⟩ : ∃ v4, Wr.rdV (Wr.rs 4 ⟨l, 0⟩) = v4 := ⟨_, rfl⟩
  have HOF := Lib.hid (show Or.ofS l = ⟨v0, v1, v2, v3, v4⟩ by unfold Or.ofS; rw [hv0, hv1, hv2, hv3, hv4])
  rw [hv0, hv1, hv2, hv3, hv4] at HX HR6 HQ6 HB6 ⊢
  clear hv0 hv1 hv2 hv3 hv4
  obtain ⟨w6, hw6⟩ : ∃ w6, w5.alloc (.cells #[.int .i64 v0, .int .i64 v1, .int .i64 v2, .int .i64 v3, .int .i64 v4] 60) = w6 := ⟨_, rfl⟩
  rw [hw6] at HX HR6 HQ6 HB6 ⊢
  clear hw6
  by_cases hf : Wr.fin (Wr.rs 5 ⟨l, 0⟩) = 0
  · have hfq : (Wr.fin (Wr.rs 5 ⟨l, 0⟩) != 0) = false := by simpa using hf
    have HF := Lib.hid (show (Wr.fin (Wr.rs 5 ⟨l, 0⟩) == 0) = true by simpa using hf)
    clear hf
    have hx0 := HX.out.cell 0
    have hx1 := HX.out.cell 1
    have hx2 := HX.out.cell 2
    have hx3 := HX.out.cell 3
    have hx4 := HX.out.cell 4
    simp [five] at hx0 hx1 hx2 hx3 hx4
    go_wp2_with fail
    refine (vstatus_any ⟨v0, v1, v2, v3, v4⟩ _).mono ?_
    rintro e w7 ⟨rfl, h7⟩
    have HQ7 := Lib.hid (HQ6.out.low h7)
    have HB7 := Lib.hid (HB6.out.trans (h7.mono HB6.out.size))
    have HX7 := Lib.hid (HX.out.low h7)
    clear h7 hx0 hx1 hx2 hx3 hx4
    have hx0 := HX7.out.cell 0
    have hx1 := HX7.out.cell 1
    have hx2 := HX7.out.cell 2
    have hx3 := HX7.out.cell 3
    have hx4 := HX7.out.cell 4
    simp [five] at hx0 hx1 hx2 hx3 hx4
    cases hv : Or.fit ⟨v0, v1, v2, v3, v4⟩ with
    | true =>
      have HOK := Lib.hid (show Or.okS l = true by unfold Or.okS; rw [HF.out, HOF.out, hv]; rfl)
      have HDEC := Lib.hid (show Or.decS l = ⟨v0, v1, v2, v3, v4⟩ by unfold Or.decS; rw [HOK.out, ← HOF.out]; rfl)
      clear hv
      have q0 := HQ7.out.cell 0
      have q1 := HQ7.out.cell 1
      have q2 := HQ7.out.cell 2
      have q3 := HQ7.out.cell 3
      have q4 := HQ7.out.cell 4
      have z0 := HQ7.out.frozen 0
      have z1 := HQ7.out.frozen 1
      have z2 := HQ7.out.frozen 2
      have z3 := HQ7.out.frozen 3
      have z4 := HQ7.out.frozen 4
      simp [five] at q0 q1 q2 q3 q4
      have HST := Lib.hid (store5 HQ7.out (.int .i64 v0) (.int .i64 v1) (.int .i64 v2) (.int .i64 v3) (.int .i64 v4))
      go_wp2_with fail
      have r0 := HST.out.1.cell 0
      have r1 := HST.out.1.cell 1
      have r2 := HST.out.1.cell 2
      have r3 := HST.out.1.cell 3
      have r4 := HST.out.1.cell 4
      simp only [List.getElem?_toArray, List.getElem?_cons_zero, List.getElem?_cons_succ] at r0 r1 r2 r3 r4
      exact bodyPost_ret (v := .tuple #[.agg #[.int .i64 v0, .int .i64 v1, .int .i64 v2, .int .i64 v3, .int .i64 v4], .int .i64 0]) (by simp [results, Try.results19, go_sem, r0, r1, r2, r3, r4]) rfl ⟨by rw [HDEC.out, HOK.out]; rfl, HB7.out.trans (HST.out.2.below (fun k e => by omega) HB7.out.size)⟩
    | false =>
      have HOK := Lib.hid (show Or.okS l = false by unfold Or.okS; rw [HF.out, HOF.out, hv]; rfl)
      have HDEC := Lib.hid (show Or.decS l = ⟨0, 0, 0, 0, 0⟩ by unfold Or.decS; rw [HOK.out]; rfl)
      clear hv
      have q0 := HQ7.out.cell 0
      have q1 := HQ7.out.cell 1
      have q2 := HQ7.out.cell 2
      have q3 := HQ7.out.cell 3
      have q4 := HQ7.out.cell 4
      have z0 := HQ7.out.frozen 0
      have z1 := HQ7.out.frozen 1
      have z2 := HQ7.out.frozen 2
      have z3 := HQ7.out.frozen 3
      have z4 := HQ7.out.frozen 4
      simp [five] at q0 q1 q2 q3 q4
      have HST := Lib.hid (store5 HQ7.out (.int .i64 0) (.int .i64 0) (.int .i64 0) (.int .i64 0) (.int .i64 0))
      go_wp2_with fail
      have r0 := HST.out.1.cell 0
      have r1 := HST.out.1.cell 1
      have r2 := HST.out.1.cell 2
      have r3 := HST.out.1.cell 3
      have r4 := HST.out.1.cell 4
      simp only [List.getElem?_toArray, List.getElem?_cons_zero, List.getElem?_cons_succ] at r0 r1 r2 r3 r4
      exact bodyPost_ret (v := .tuple #[.agg #[.int .i64 0, .int .i64 0, .int .i64 0, .int .i64 0, .int .i64 0], .int .i64 2]) (by simp [results, Try.results19, go_sem, r0, r1, r2, r3, r4]) rfl ⟨by rw [HDEC.out, HOK.out]; rfl, HB7.out.trans (HST.out.2.below (fun k e => by omega) HB7.out.size)⟩
  · have hfq : (Wr.fin (Wr.rs 5 ⟨l, 0⟩) != 0) = true := by simpa using hf
    have HOK := Lib.hid (show Or.okS l = false by unfold Or.okS; rw [show (Wr.fin (Wr.rs 5 ⟨l, 0⟩) == 0) = false by simpa using hf]; rfl)
    have HDEC := Lib.hid (show Or.decS l = ⟨0, 0, 0, 0, 0⟩ by unfold Or.decS; rw [HOK.out]; rfl)
    clear hf
    have q0 := HQ6.out.cell 0
    have q1 := HQ6.out.cell 1
    have q2 := HQ6.out.cell 2
    have q3 := HQ6.out.cell 3
    have q4 := HQ6.out.cell 4
    have z0 := HQ6.out.frozen 0
    have z1 := HQ6.out.frozen 1
    have z2 := HQ6.out.frozen 2
    have z3 := HQ6.out.frozen 3
    have z4 := HQ6.out.frozen 4
    simp [five] at q0 q1 q2 q3 q4
    have HST := Lib.hid (store5 HQ6.out (.int .i64 0) (.int .i64 0) (.int .i64 0) (.int .i64 0) (.int .i64 0))
    go_wp2_with fail
    have r0 := HST.out.1.cell 0
    have r1 := HST.out.1.cell 1
    have r2 := HST.out.1.cell 2
    have r3 := HST.out.1.cell 3
    have r4 := HST.out.1.cell 4
    simp only [List.getElem?_toArray, List.getElem?_cons_zero, List.getElem?_cons_succ] at r0 r1 r2 r3 r4
    exact bodyPost_ret (v := .tuple #[.agg #[.int .i64 0, .int .i64 0, .int .i64 0, .int .i64 0, .int .i64 0], .int .i64 2]) (by simp [results, Try.results19, go_sem, r0, r1, r2, r3, r4]) rfl ⟨by rw [HDEC.out, HOK.out]; rfl, HB6.out.trans (HST.out.2.below (fun k e => by omega) HB6.out.size)⟩
end Go.Proofs.Ytodhpooddmeghaa
