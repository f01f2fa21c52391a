/- Layer 28: the walks of the reference's decoders. -/
import Derived.Test.YtikbenngbaicoaaOrR
namespace Go.Proofs.Ytikbenngbaicoaa
set_option linter.unusedSimpArgs false
set_option linter.unusedVariables false
open Go.RowKit

namespace Or
theorem ks_rdV (l : List Int) (k : Nat) : Wr.rdV (Wr.ks k ⟨l, 0⟩) = Wr.rdV (Wr.rs k ⟨l, 0⟩) := (Wr.al_ks ⟨l, 0⟩ k).v.symm
theorem ks_fin (l : List Int) (k : Nat) : Wr.fin (Wr.ks k ⟨l, 0⟩) = Wr.fin (Wr.rs k ⟨l, 0⟩) := (Wr.al_ks ⟨l, 0⟩ k).fin.symm
end Or

set_option maxRecDepth 100000 in
set_option maxHeartbeats 600000 in
theorem rread_any (A : Option Addr) (l : List Int) (c : Nat) (w : World) (hr : Rd w A (l.map (.int .u8))) (hb : Wr.Bts l) (hl : l.length ≤ 1000000) :
    Calls Try.prog 24 #[.slice A l.length c] w fun e w' => e = .returned (.tuple #[.agg #[.int .i64 (Or.decO l).u, .int .i64 (Or.decO l).e, .int .i64 (Or.decO l).k, .int .i64 (Or.decO l).i, .int .i64 (Or.decO l).n], .int .i64 (Or.decE (Or.okO l))]) ∧ Below w.heap.size w w' := by
  have HBT := Lib.hid hb
  have hal := (Below.refl w.heap.size w).alloc (Nat.le_refl _) (.cells (five 0 0 0 0 0) 29)
  have hal2 := hal.alloc hal.size (.cells #[] 5)
  have HR := Lib.hid ((hr.alloc (.cells (five 0 0 0 0 0) 29)).alloc (.cells #[] 5))
  have HQ := Lib.hid ((Blk.new w 29 (five 0 0 0 0 0)).alloc (.cells #[] 5))
  have HB := Lib.hid hal2
  have HO := Lib.hid (own_lit (base := w.heap.size + 1) (w := w.alloc (.cells (five 0 0 0 0 0) 29)) (e := 5) (size := 1) #[] 0 (w.heap.size + 1) (by simp) (Nat.le_refl _) (by omega) rfl)
  clear hr hb hal hal2
  obtain ⟨v0, hv0⟩ : ∃ v0, Wr.rdV (Wr.ks 0 ⟨l, 0⟩) = v0 := ⟨_, rfl⟩
  obtain ⟨v1, hv1⟩ : ∃ v1, Wr.rdV (Wr.ks 1 ⟨l, 0⟩) = v1 := ⟨_, rfl⟩
  obtain ⟨v2, hv2⟩ : ∃ v2, Wr.rdV (Wr.ks 2 ⟨l, 0⟩) = v2 := ⟨_, rfl⟩
  obtain ⟨v3, hv3⟩ : ∃ v3, Wr.rdV (Wr.ks 3 ⟨l, 0⟩) = v3 := ⟨_, rfl⟩
  obtain ⟨v4, hv4⟩ : ∃ v4, Wr.rdV (Wr.ks 4 ⟨l, 0⟩) = v4 := ⟨_, rfl⟩
  have HOF := Lib.hid (show Or.ofR l = ⟨v0, v1, v2, v3, v4⟩ by unfold Or.ofR; rw [← hv0, ← hv1, ← hv2, ← hv3, ← hv4]; simp only [Or.ks_rdV])
  have HFN := Lib.hid (Or.ks_fin l 5)
  have V0 := Lib.hid hv0
  have V1 := Lib.hid hv1
  have V2 := Lib.hid hv2
  have V3 := Lib.hid hv3
  have V4 := Lib.hid hv4
  clear hv0 hv1 hv2 hv3 hv4
  go_enter Try.func24, Try.ntmps24
  go_wp2_with (at_builtin; refine wpList_app l.length (l.map (.int .u8)) rfl rfl slU8 HO.out rfl HR.out rfl (by simp) oneCell_ints (by unfold maxLen; omega) (by simp) (by omega) rfl ?_; intro A1 c1 w1 hown1 hb1 _ _
               have HO1 := Lib.hid hown1
               have HB1 := Lib.hid (HB.out.trans (hb1.mono (by omega)))
               have HQ1 := Lib.hid (HQ.out.below hb1 (by omega))
               clear hown1 hb1)
  obtain ⟨p, hp⟩ : ∃ p, w1.heap.size = p := ⟨_, rfl⟩
  have hq1 := HQ1.out.lt
  have HR1 := Lib.hid (show RfAt (w1.alloc (.cells #[.slice A1 l.length c1, .int .i64 0] 77)) p (Wr.ks 0 ⟨l, 0⟩) from
    ⟨A1, c1, by rw [← hp]; exact Blk.new _ _ _, (Rd.of_own HO1.out).alloc _, (own_cap HO1.out).1, (own_cap HO1.out).2, fun ad e => by rw [← hp]; exact (HO1.out.lt ad.block (by rw [ownBlock_slice, e]; rfl)).2⟩)
  have HQ2 := Lib.hid (HQ1.out.alloc (.cells #[.slice A1 l.length c1, .int .i64 0] 77))
  have HB2 := Lib.hid (HB1.out.alloc HB1.out.size (.cells #[.slice A1 l.length c1, .int .i64 0] 77))
  have hpz : p < (w1.alloc (.cells #[.slice A1 l.length c1, .int .i64 0] 77)).heap.size := by simp; omega
  have HPZ := Lib.hid hpz
  clear hpz
  rw [hp]
  refine (refRead_any _ p _ HR1.out (Wr.ks_bts HBT.out 0)).mono ?_
  rw [V0.out]
  rintro e w2 ⟨rfl, h1, h2⟩
  have hpq : w.heap.size < p := by omega
  have hp2 : p < w2.heap.size := Nat.lt_of_lt_of_le HPZ.out h2.size
  have HR3 := Lib.hid (show RfAt w2 p (Wr.ks 1 ⟨l, 0⟩) from h1)
  have HQ3 := Lib.hid (HQ2.out.chg h2 (by omega))
  have HB3 := Lib.hid (HB2.out.trans (h2.below (B := w.heap.size) (fun k e => by omega) HB2.out.size))
  clear h1 h2 hp
  go_wp2_with fail
  obtain ⟨ob, hob⟩ : ∃ ob, w2.heap.size = ob := ⟨_, rfl⟩
  rw [hob]
  have hpo : p < ob := by omega
  have hal := (Below.refl w2.heap.size w2).alloc (Nat.le_refl _) (.cells #[.int .i64 v0, .int .i64 0, .int .i64 0, .int .i64 0, .int .i64 0] 29)
  have HX4 := Lib.hid (show Blk (w2.alloc (.cells #[.int .i64 v0, .int .i64 0, .int .i64 0, .int .i64 0, .int .i64 0] 29)) ob 29 #[.int .i64 v0, .int .i64 0, .int .i64 0, .int .i64 0, .int .i64 0] by rw [← hob]; exact Blk.new _ _ _)
  have HR4 := Lib.hid (HR3.out.low hal)
  have HQ4 := Lib.hid (HQ3.out.low hal)
  have HB4 := Lib.hid (HB3.out.trans (hal.mono HB3.out.size))
  obtain ⟨u1, hu1⟩ : ∃ u1, w2.alloc (.cells #[.int .i64 v0, .int .i64 0, .int .i64 0, .int .i64 0, .int .i64 0] 29) = u1 := ⟨_, rfl⟩
  rw [hu1] at HX4 HR4 HQ4 HB4 ⊢
  clear hal hob hu1
  refine (refRead_any _ p _ HR4.out (Wr.ks_bts HBT.out 1)).mono ?_
  rw [V1.out]
  rintro e t1 ⟨rfl, h1, h2⟩
  have hx := HX4.out.chg h2 (by omega)
  have HXt := Lib.hid hx
  have cx : t1.cell? ⟨ob, 1, none⟩ = some (.int .i64 0) := hx.cell 1
  have zx : t1.frozen? ⟨ob, 1, none⟩ = false := hx.frozen 1
  have HRt := Lib.hid (show RfAt t1 p (Wr.ks 2 ⟨l, 0⟩) from h1)
  have HQt := Lib.hid (HQ4.out.chg h2 (by omega))
  have HBt := Lib.hid (HB4.out.trans (h2.below (B := w.heap.size) (fun k e => by omega) HB4.out.size))
  clear h1 h2 hx
  go_wp2_with fail
  have hc : Chg (· = ob) t1 (t1.setCell ⟨ob, 1, none⟩ (.int .i64 v1)) := Chg.setCell t1 ⟨ob, 1, none⟩ (.int .i64 v1)
  have HX5 := Lib.hid (show Blk (t1.setCell ⟨ob, 1, none⟩ (.int .i64 v1)) ob 29 #[.int .i64 v0, .int .i64 v1, .int .i64 0, .int .i64 0, .int .i64 0] from HXt.out.set_ 1 (.int .i64 v1))
  have HR5 := Lib.hid (HRt.out.chg hc (fun k e => by omega))
  have HQ5 := Lib.hid (HQt.out.chg hc (by omega))
  have HB5 := Lib.hid (HBt.out.trans (hc.below (B := w.heap.size) (fun k e => by omega) HBt.out.size))
  obtain ⟨u2, hu2⟩ : ∃ u2, t1.setCell ⟨ob, 1, none⟩ (.int .i64 v1) = u2 := ⟨_, rfl⟩
  rw [hu2] at HX5 HR5 HQ5 HB5 ⊢
  clear hc hu2 cx zx HXt HRt HQt HBt
  refine (refRead_any _ p _ HR5.out (Wr.ks_bts HBT.out 2)).mono ?_
  rw [V2.out]
  rintro e t2 ⟨rfl, h1, h2⟩
  have hx := HX5.out.chg h2 (by omega)
  have HXt := Lib.hid hx
  have cx : t2.cell? ⟨ob, 2, none⟩ = some (.int .i64 0) := hx.cell 2
  have zx : t2.frozen? ⟨ob, 2, none⟩ = false := hx.frozen 2
  have HRt := Lib.hid (show RfAt t2 p (Wr.ks 3 ⟨l, 0⟩) from h1)
  have HQt := Lib.hid (HQ5.out.chg h2 (by omega))
  have HBt := Lib.hid (HB5.out.trans (h2.below (B := w.heap.size) (fun k e => by omega) HB5.out.size))
  clear h1 h2 hx
  go_wp2_with fail
  have hc : Chg (· = ob) t2 (t2.setCell ⟨ob, 2, none⟩ (.int .i64 v2)) := Chg.setCell t2 ⟨ob, 2, none⟩ (.int .i64 v2)
  have HX6 := Lib.hid (show Blk (t2.setCell ⟨ob, 2, none⟩ (.int .i64 v2)) ob 29 #[.int .i64 v0, .int .i64 v1, .int .i64 v2, .int .i64 0, .int .i64 0] from HXt.out.set_ 2 (.int .i64 v2))
  have HR6 := Lib.hid (HRt.out.chg hc (fun k e => by omega))
  have HQ6 := Lib.hid (HQt.out.chg hc (by omega))
  have HB6 := Lib.hid (HBt.out.trans (hc.below (B := w.heap.size) (fun k e => by omega) HBt.out.size))
  obtain ⟨u3, hu3⟩ : ∃ u3, t2.setCell ⟨ob, 2, none⟩ (.int .i64 v2) = u3 := ⟨_, rfl⟩
  rw [hu3] at HX6 HR6 HQ6 HB6 ⊢
  clear hc hu3 cx zx HXt HRt HQt HBt
  refine (refRead_any _ p _ HR6.out (Wr.ks_bts HBT.out 3)).mono ?_
  rw [V3.out]
  rintro e t3 ⟨rfl, h1, h2⟩
  have hx := HX6.out.chg h2 (by omega)
  have HXt := Lib.hid hx
  have cx : t3.cell? ⟨ob, 3, none⟩ = some (.int .i64 0) := hx.cell 3
  have zx : t3.frozen? ⟨ob, 3, none⟩ = false := hx.frozen 3
  have HRt := Lib.hid (show RfAt t3 p (Wr.ks 4 ⟨l, 0⟩) from h1)
  have HQt := Lib.hid (HQ6.out.chg h2 (by omega))
  have HBt := Lib.hid (HB6.out.trans (h2.below (B := w.heap.size) (fun k e => by omega) HB6.out.size))
  clear h1 h2 hx
  go_wp2_with fail
  have hc : Chg (· = ob) t3 (t3.setCell ⟨ob, 3, none⟩ (.int .i64 v3)) := Chg.setCell t3 ⟨ob, 3, none⟩ (.int .i64 v3)
  have HX7 := Lib.hid (show Blk (t3.setCell ⟨ob, 3, none⟩ (.int .i64 v3)) ob 29 #[.int .i64 v0, .int .i64 v1, .int .i64 v2, .int .i64 v3, .int .i64 0] from HXt.out.set_ 3 (.int .i64 v3))
  have HR7 := Lib.hid (HRt.out.chg hc (fun k e => by omega))
  have HQ7 := Lib.hid (HQt.out.chg hc (by omega))
  have HB7 := Lib.hid (HBt.out.trans (hc.below (B := w.heap.size) (fun k e => by omega) HBt.out.size))
  obtain ⟨u4, hu4⟩ : ∃ u4, t3.setCell ⟨ob, 3, none⟩ (.int .i64 v3) = u4 := ⟨_, rfl⟩
  rw [hu4] at HX7 HR7 HQ7 HB7 ⊢
  clear hc hu4 cx zx HXt HRt HQt HBt
  refine (refRead_any _ p _ HR7.out (Wr.ks_bts HBT.out 4)).mono ?_
  rw [V4.out]
  rintro e t4 ⟨rfl, h1, h2⟩
  have hx := HX7.out.chg h2 (by omega)
  have HXt := Lib.hid hx
  have cx : t4.cell? ⟨ob, 4, none⟩ = some (.int .i64 0) := hx.cell 4
  have zx : t4.frozen? ⟨ob, 4, none⟩ = false := hx.frozen 4
  have HRt := Lib.hid (show RfAt t4 p (Wr.ks 5 ⟨l, 0⟩) from h1)
  have HQt := Lib.hid (HQ7.out.chg h2 (by omega))
  have HBt := Lib.hid (HB7.out.trans (h2.below (B := w.heap.size) (fun k e => by omega) HB7.out.size))
  clear h1 h2 hx
  go_wp2_with fail
  have hc : Chg (· = ob) t4 (t4.setCell ⟨ob, 4, none⟩ (.int .i64 v4)) := Chg.setCell t4 ⟨ob, 4, none⟩ (.int .i64 v4)
  have HX8 := Lib.hid (show Blk (t4.setCell ⟨ob, 4, none⟩ (.int .i64 v4)) ob 29 #[.int .i64 v0, .int .i64 v1, .int .i64 v2, .int .i64 v3, .int .i64 v4] from HXt.out.set_ 4 (.int .i64 v4))
  have HR8 := Lib.hid (HRt.out.chg hc (fun k e => by omega))
  have HQ8 := Lib.hid (HQt.out.chg hc (by omega))
  have HB8 := Lib.hid (HBt.out.trans (hc.below (B := w.heap.size) (fun k e => by omega) HBt.out.size))
  obtain ⟨u5, hu5⟩ : ∃ u5, t4.setCell ⟨ob, 4, none⟩ (.int .i64 v4) = u5 := ⟨_, rfl⟩
  rw [hu5] at HX8 HR8 HQ8 HB8 ⊢
  clear hc hu5 cx zx HXt HRt HQt HBt
  refine (refEnd_any _ p _ HR8.out).mono ?_
  rintro e t5 ⟨rfl, rfl⟩
  rw [HFN.out]
  by_cases hf : Wr.fin (Wr.rs 5 ⟨l, 0⟩) = 0
  · have hfq : (Wr.fin (Wr.rs 5 ⟨l, 0⟩) != 0) = false := by simpa using hf
    have HF := Lib.hid (show (Wr.fin (Wr.rs 5 ⟨l, 0⟩) == 0) = true by simpa using hf)
    clear hf
    have hx0 : u5.cell? ⟨ob, 0, none⟩ = some (.int .i64 v0) := HX8.out.cell 0
    have hx1 : u5.cell? ⟨ob, 1, none⟩ = some (.int .i64 v1) := HX8.out.cell 1
    have hx2 : u5.cell? ⟨ob, 2, none⟩ = some (.int .i64 v2) := HX8.out.cell 2
    have hx3 : u5.cell? ⟨ob, 3, none⟩ = some (.int .i64 v3) := HX8.out.cell 3
    have hx4 : u5.cell? ⟨ob, 4, none⟩ = some (.int .i64 v4) := HX8.out.cell 4
    go_wp2_with fail
    refine (right_any ⟨v0, v1, v2, v3, v4⟩ _).mono ?_
    rintro e w7 ⟨rfl, h7⟩
    have HQ9 := Lib.hid (HQ8.out.low h7)
    have HB9 := Lib.hid (HB8.out.trans (h7.mono HB8.out.size))
    have HX9 := Lib.hid (HX8.out.low h7)
    clear h7 hx0 hx1 hx2 hx3 hx4
    have hx0 : w7.cell? ⟨ob, 0, none⟩ = some (.int .i64 v0) := HX9.out.cell 0
    have hx1 : w7.cell? ⟨ob, 1, none⟩ = some (.int .i64 v1) := HX9.out.cell 1
    have hx2 : w7.cell? ⟨ob, 2, none⟩ = some (.int .i64 v2) := HX9.out.cell 2
    have hx3 : w7.cell? ⟨ob, 3, none⟩ = some (.int .i64 v3) := HX9.out.cell 3
    have hx4 : w7.cell? ⟨ob, 4, none⟩ = some (.int .i64 v4) := HX9.out.cell 4
    cases hv : Or.valid ⟨v0, v1, v2, v3, v4⟩ with
    | true =>
      have HOK := Lib.hid (show Or.okO l = true by unfold Or.okO; rw [HF.out, HOF.out, hv]; rfl)
      have HDEC := Lib.hid (show Or.decO l = ⟨v0, v1, v2, v3, v4⟩ by unfold Or.decO; rw [HOK.out, ← HOF.out]; rfl)
      clear hv
      have q0 := HQ9.out.cell 0
      have q1 := HQ9.out.cell 1
      have q2 := HQ9.out.cell 2
      have q3 := HQ9.out.cell 3
      have q4 := HQ9.out.cell 4
      have z0 := HQ9.out.frozen 0
      have z1 := HQ9.out.frozen 1
      have z2 := HQ9.out.frozen 2
      have z3 := HQ9.out.frozen 3
      have z4 := HQ9.out.frozen 4
      simp [five] at q0 q1 q2 q3 q4
      have HST := Lib.hid (store5 HQ9.out (.int .i64 v0) (.int .i64 v1) (.int .i64 v2) (.int .i64 v3) (.int .i64 v4))
      go_wp2_with fail
      have r0 := HST.out.1.cell 0
      have r1 := HST.out.1.cell 1
      have r2 := HST.out.1.cell 2
      have r3 := HST.out.1.cell 3
      have r4 := HST.out.1.cell 4
      simp only [List.getElem?_toArray, List.getElem?_cons_zero, List.getElem?_cons_succ] at r0 r1 r2 r3 r4
      exact bodyPost_ret (v := .tuple #[.agg #[.int .i64 v0, .int .i64 v1, .int .i64 v2, .int .i64 v3, .int .i64 v4], .int .i64 0]) (by simp [results, Try.results24, go_sem, r0, r1, r2, r3, r4]) rfl ⟨by rw [HDEC.out, HOK.out]; rfl, HB9.out.trans (HST.out.2.below (fun k e => by omega) HB9.out.size)⟩
    | false =>
      have HOK := Lib.hid (show Or.okO l = false by unfold Or.okO; rw [HF.out, HOF.out, hv]; rfl)
      have HDEC := Lib.hid (show Or.decO l = ⟨0, 0, 0, 0, 0⟩ by unfold Or.decO; rw [HOK.out]; rfl)
      clear hv
      have q0 := HQ9.out.cell 0
      have q1 := HQ9.out.cell 1
      have q2 := HQ9.out.cell 2
      have q3 := HQ9.out.cell 3
      have q4 := HQ9.out.cell 4
      have z0 := HQ9.out.frozen 0
      have z1 := HQ9.out.frozen 1
      have z2 := HQ9.out.frozen 2
      have z3 := HQ9.out.frozen 3
      have z4 := HQ9.out.frozen 4
      simp [five] at q0 q1 q2 q3 q4
      have HST := Lib.hid (store5 HQ9.out (.int .i64 0) (.int .i64 0) (.int .i64 0) (.int .i64 0) (.int .i64 0))
      go_wp2_with fail
      have r0 := HST.out.1.cell 0
      have r1 := HST.out.1.cell 1
      have r2 := HST.out.1.cell 2
      have r3 := HST.out.1.cell 3
      have r4 := HST.out.1.cell 4
      simp only [List.getElem?_toArray, List.getElem?_cons_zero, List.getElem?_cons_succ] at r0 r1 r2 r3 r4
      exact bodyPost_ret (v := .tuple #[.agg #[.int .i64 0, .int .i64 0, .int .i64 0, .int .i64 0, .int .i64 0], .int .i64 2]) (by simp [results, Try.results24, go_sem, r0, r1, r2, r3, r4]) rfl ⟨by rw [HDEC.out, HOK.out]; rfl, HB9.out.trans (HST.out.2.below (fun k e => by omega) HB9.out.size)⟩
  · have hfq : (Wr.fin (Wr.rs 5 ⟨l, 0⟩) != 0) = true := by simpa using hf
    have HOK := Lib.hid (show Or.okO l = false by unfold Or.okO; rw [show (Wr.fin (Wr.rs 5 ⟨l, 0⟩) == 0) = false by simpa using hf]; rfl)
    have HDEC := Lib.hid (show Or.decO l = ⟨0, 0, 0, 0, 0⟩ by unfold Or.decO; rw [HOK.out]; rfl)
    clear hf
    have q0 := HQ8.out.cell 0
    have q1 := HQ8.out.cell 1
    have q2 := HQ8.out.cell 2
    have q3 := HQ8.out.cell 3
    have q4 := HQ8.out.cell 4
    have z0 := HQ8.out.frozen 0
    have z1 := HQ8.out.frozen 1
    have z2 := HQ8.out.frozen 2
    have z3 := HQ8.out.frozen 3
    have z4 := HQ8.out.frozen 4
    simp [five] at q0 q1 q2 q3 q4
    have HST := Lib.hid (store5 HQ8.out (.int .i64 0) (.int .i64 0) (.int .i64 0) (.int .i64 0) (.int .i64 0))
    go_wp2_with fail
    have r0 := HST.out.1.cell 0
    have r1 := HST.out.1.cell 1
    have r2 := HST.out.1.cell 2
    have r3 := HST.out.1.cell 3
    have r4 := HST.out.1.cell 4
    simp only [List.getElem?_toArray, List.getElem?_cons_zero, List.getElem?_cons_succ] at r0 r1 r2 r3 r4
    exact bodyPost_ret (v := .tuple #[.agg #[.int .i64 0, .int .i64 0, .int .i64 0, .int .i64 0, .int .i64 0], .int .i64 2]) (by simp [results, Try.results24, go_sem, r0, r1, r2, r3, r4]) rfl ⟨by rw [HDEC.out, HOK.out]; rfl, HB8.out.trans (HST.out.2.below (fun k e => by omega) HB8.out.size)⟩

set_option maxRecDepth 100000 in
set_option maxHeartbeats 600000 in
theorem rhear_any (A : Option Addr) (l : List Int) (c : Nat) (w : World) (hr : Rd w A (l.map (.int .u8))) (hb : Wr.Bts l) (hl : l.length ≤ 1000000) :
    Calls Try.prog 26 #[.slice A l.length c] w fun e w' => e = .returned (.tuple #[.agg #[.int .i64 (Or.decS l).u, .int .i64 (Or.decS l).q, .int .i64 (Or.decS l).s, .int .i64 (Or.decS l).n, .int .i64 (Or.decS l).e], .int .i64 (Or.decE (Or.okS l))]) ∧ Below w.heap.size w w' := by
  have HBT := Lib.hid hb
  have hal := (Below.refl w.heap.size w).alloc (Nat.le_refl _) (.cells (five 0 0 0 0 0) 45)
  have hal2 := hal.alloc hal.size (.cells #[] 5)
  have HR := Lib.hid ((hr.alloc (.cells (five 0 0 0 0 0) 45)).alloc (.cells #[] 5))
  have HQ := Lib.hid ((Blk.new w 45 (five 0 0 0 0 0)).alloc (.cells #[] 5))
  have HB := Lib.hid hal2
  have HO := Lib.hid (own_lit (base := w.heap.size + 1) (w := w.alloc (.cells (five 0 0 0 0 0) 45)) (e := 5) (size := 1) #[] 0 (w.heap.size + 1) (by simp) (Nat.le_refl _) (by omega) rfl)
  clear hr hb hal hal2
  obtain ⟨v0, hv0⟩ : ∃ v0, Wr.rdV (Wr.ks 0 ⟨l, 0⟩) = v0 := ⟨_, rfl⟩
  obtain ⟨v1, hv1⟩ : ∃ v1, Wr.rdV (Wr.ks 1 ⟨l, 0⟩) = v1 := ⟨_, rfl⟩
  obtain ⟨v2, hv2⟩ : ∃ v2, Wr.rdV (Wr.ks 2 ⟨l, 0⟩) = v2 := ⟨_, rfl⟩
  obtain ⟨v3, hv3⟩ : ∃ v3, Wr.rdV (Wr.ks 3 ⟨l, 0⟩) = v3 := ⟨_, rfl⟩
  obtain ⟨v4, hv4⟩ : ∃ v4, Wr.rdV (Wr.ks 4 ⟨l, 0⟩) = v4 := ⟨_, rfl⟩
  have HOF := Lib.hid (show Or.ofS l = ⟨v0, v1, v2, v3, v4⟩ by unfold Or.ofS; rw [← hv0, ← hv1, ← hv2, ← hv3, ← hv4]; simp only [Or.ks_rdV])
  have HFN := Lib.hid (Or.ks_fin l 5)
  have V0 := Lib.hid hv0
  have V1 := Lib.hid hv1
  have V2 := Lib.hid hv2
  have V3 := Lib.hid hv3
  have V4 := Lib.hid hv4
  clear hv0 hv1 hv2 hv3 hv4
  go_enter Try.func26, Try.ntmps26
  go_wp2_with (at_builtin; refine wpList_app l.length (l.map (.int .u8)) rfl rfl slU8 HO.out rfl HR.out rfl (by simp) oneCell_ints (by unfold maxLen; omega) (by simp) (by omega) rfl ?_; intro A1 c1 w1 hown1 hb1 _ _
               have HO1 := Lib.hid hown1
               have HB1 := Lib.hid (HB.out.trans (hb1.mono (by omega)))
               have HQ1 := Lib.hid (HQ.out.below hb1 (by omega))
               clear hown1 hb1)
  obtain ⟨p, hp⟩ : ∃ p, w1.heap.size = p := ⟨_, rfl⟩
  have hq1 := HQ1.out.lt
  have HR1 := Lib.hid (show RfAt (w1.alloc (.cells #[.slice A1 l.length c1, .int .i64 0] 77)) p (Wr.ks 0 ⟨l, 0⟩) from
    ⟨A1, c1, by rw [← hp]; exact Blk.new _ _ _, (Rd.of_own HO1.out).alloc _, (own_cap HO1.out).1, (own_cap HO1.out).2, fun ad e => by rw [← hp]; exact (HO1.out.lt ad.block (by rw [ownBlock_slice, e]; rfl)).2⟩)
  have HQ2 := Lib.hid (HQ1.out.alloc (.cells #[.slice A1 l.length c1, .int .i64 0] 77))
  have HB2 := Lib.hid (HB1.out.alloc HB1.out.size (.cells #[.slice A1 l.length c1, .int .i64 0] 77))
  have hpz : p < (w1.alloc (.cells #[.slice A1 l.length c1, .int .i64 0] 77)).heap.size := by simp; omega
  have HPZ := Lib.hid hpz
  clear hpz
  rw [hp]
  refine (refRead_any _ p _ HR1.out (Wr.ks_bts HBT.out 0)).mono ?_
  rw [V0.out]
  rintro e w2 ⟨rfl, h1, h2⟩
  have hpq : w.heap.size < p := by omega
  have hp2 : p < w2.heap.size := Nat.lt_of_lt_of_le HPZ.out h2.size
  have HR3 := Lib.hid (show RfAt w2 p (Wr.ks 1 ⟨l, 0⟩) from h1)
  have HQ3 := Lib.hid (HQ2.out.chg h2 (by omega))
  have HB3 := Lib.hid (HB2.out.trans (h2.below (B := w.heap.size) (fun k e => by omega) HB2.out.size))
  clear h1 h2 hp
  go_wp2_with fail
  obtain ⟨ob, hob⟩ : ∃ ob, w2.heap.size = ob := ⟨_, rfl⟩
  rw [hob]
  have hpo : p < ob := by omega
  have hal := (Below.refl w2.heap.size w2).alloc (Nat.le_refl _) (.cells #[.int .i64 v0, .int .i64 0, .int .i64 0, .int .i64 0, .int .i64 0] 45)
  have HX4 := Lib.hid (show Blk (w2.alloc (.cells #[.int .i64 v0, .int .i64 0, .int .i64 0, .int .i64 0, .int .i64 0] 45)) ob 45 #[.int .i64 v0, .int .i64 0, .int .i64 0, .int .i64 0, .int .i64 0] by rw [← hob]; exact Blk.new _ _ _)
  have HR4 := Lib.hid (HR3.out.low hal)
  have HQ4 := Lib.hid (HQ3.out.low hal)
  have HB4 := Lib.hid (HB3.out.trans (hal.mono HB3.out.size))
  obtain ⟨u1, hu1⟩ : ∃ u1, w2.alloc (.cells #[.int .i64 v0, .int .i64 0, .int .i64 0, .int .i64 0, .int .i64 0] 45) = u1 := ⟨_, rfl⟩
  rw [hu1] at HX4 HR4 HQ4 HB4 ⊢
  clear hal hob hu1
  refine (refRead_any _ p _ HR4.out (Wr.ks_bts HBT.out 1)).mono ?_
  rw [V1.out]
  rintro e t1 ⟨rfl, h1, h2⟩
  have hx := HX4.out.chg h2 (by omega)
  have HXt := Lib.hid hx
  have cx : t1.cell? ⟨ob, 1, none⟩ = some (.int .i64 0) := hx.cell 1
  have zx : t1.frozen? ⟨ob, 1, none⟩ = false := hx.frozen 1
  have HRt := Lib.hid (show RfAt t1 p (Wr.ks 2 ⟨l, 0⟩) from h1)
  have HQt := Lib.hid (HQ4.out.chg h2 (by omega))
  have HBt := Lib.hid (HB4.out.trans (h2.below (B := w.heap.size) (fun k e => by omega) HB4.out.size))
  clear h1 h2 hx
  go_wp2_with fail
  have hc : Chg (· = ob) t1 (t1.setCell ⟨ob, 1, none⟩ (.int .i64 v1)) := Chg.setCell t1 ⟨ob, 1, none⟩ (.int .i64 v1)
  have HX5 := Lib.hid (show Blk (t1.setCell ⟨ob, 1, none⟩ (.int .i64 v1)) ob 45 #[.int .i64 v0, .int .i64 v1, .int .i64 0, .int .i64 0, .int .i64 0] from HXt.out.set_ 1 (.int .i64 v1))
  have HR5 := Lib.hid (HRt.out.chg hc (fun k e => by omega))
  have HQ5 := Lib.hid (HQt.out.chg hc (by omega))
  have HB5 := Lib.hid (HBt.out.trans (hc.below (B := w.heap.size) (fun k e => by omega) HBt.out.size))
  obtain ⟨u2, hu2⟩ : ∃ u2, t1.setCell ⟨ob, 1, none⟩ (.int .i64 v1) = u2 := ⟨_, rfl⟩
  rw [hu2] at HX5 HR5 HQ5 HB5 ⊢
  clear hc hu2 cx zx HXt HRt HQt HBt
  refine (refRead_any _ p _ HR5.out (Wr.ks_bts HBT.out 2)).mono ?_
  rw [V2.out]
  rintro e t2 ⟨rfl, h1, h2⟩
  have hx := HX5.out.chg h2 (by omega)
  have HXt := Lib.hid hx
  have cx : t2.cell? ⟨ob, 2, none⟩ = some (.int .i64 0) := hx.cell 2
  have zx : t2.frozen? ⟨ob, 2, none⟩ = false := hx.frozen 2
  have HRt := Lib.hid (show RfAt t2 p (Wr.ks 3 ⟨l, 0⟩) from h1)
  have HQt := Lib.hid (HQ5.out.chg h2 (by omega))
  have HBt := Lib.hid (HB5.out.trans (h2.below (B := w.heap.size) (fun k e => by omega) HB5.out.size))
  clear h1 h2 hx
  go_wp2_with fail
  have hc : Chg (· = ob) t2 (t2.setCell ⟨ob, 2, none⟩ (.int .i64 v2)) := Chg.setCell t2 ⟨ob, 2, none⟩ (.int .i64 v2)
  have HX6 := Lib.hid (show Blk (t2.setCell ⟨ob, 2, none⟩ (.int .i64 v2)) ob 45 #[.int .i64 v0, .int .i64 v1, .int .i64 v2, .int .i64 0, .int .i64 0] from HXt.out.set_ 2 (.int .i64 v2))
  have HR6 := Lib.hid (HRt.out.chg hc (fun k e => by omega))
  have HQ6 := Lib.hid (HQt.out.chg hc (by omega))
  have HB6 := Lib.hid (HBt.out.trans (hc.below (B := w.heap.size) (fun k e => by omega) HBt.out.size))
  obtain ⟨u3, hu3⟩ : ∃ u3, t2.setCell ⟨ob, 2, none⟩ (.int .i64 v2) = u3 := ⟨_, rfl⟩
  rw [hu3] at HX6 HR6 HQ6 HB6 ⊢
  clear hc hu3 cx zx HXt HRt HQt HBt
  refine (refRead_any _ p _ HR6.out (Wr.ks_bts HBT.out 3)).mono ?_
  rw [V3.out]
  rintro e t3 ⟨rfl, h1, h2⟩
  have hx := HX6.out.chg h2 (by omega)
  have HXt := Lib.hid hx
  have cx : t3.cell? ⟨ob, 3, none⟩ = some (.int .i64 0) := hx.cell 3
  have zx : t3.frozen? ⟨ob, 3, none⟩ = false := hx.frozen 3
  have HRt := Lib.hid (show RfAt t3 p (Wr.ks 4 ⟨l, 0⟩) from h1)
  have HQt := Lib.hid (HQ6.out.chg h2 (by omega))
  have HBt := Lib.hid (HB6.out.trans (h2.below (B := w.heap.size) (fun k e => by omega) HB6.out.size))
  clear h1 h2 hx
  go_wp2_with fail
  have hc : Chg (· = ob) t3 (t3.setCell ⟨ob, 3, none⟩ (.int .i64 v3)) := Chg.setCell t3 ⟨ob, 3, none⟩ (.int .i64 v3)
  have HX7 := Lib.hid (show Blk (t3.setCell ⟨ob, 3, none⟩ (.int .i64 v3)) ob 45 #[.int .i64 v0, .int .i64 v1, .int .i64 v2, .int .i64 v3, .int .i64 0] from HXt.out.set_ 3 (.int .i64 v3))
  have HR7 := Lib.hid (HRt.out.chg hc (fun k e => by omega))
  have HQ7 := Lib.hid (HQt.out.chg hc (by omega))
  have HB7 := Lib.hid (HBt.out.trans (hc.below (B := w.heap.size) (fun k e => by omega) HBt.out.size))
  obtain ⟨u4, hu4⟩ : ∃ u4, t3.setCell ⟨ob, 3, none⟩ (.int .i64 v3) = u4 := ⟨_, rfl⟩
  rw [hu4] at HX7 HR7 HQ7 HB7 ⊢
  clear hc hu4 cx zx HXt HRt HQt HBt
  refine (refRead_any _ p _ HR7.out (Wr.ks_bts HBT.out 4)).mono ?_
  rw [V4.out]
  rintro e t4 ⟨rfl, h1, h2⟩
  have hx := HX7.out.chg h2 (by omega)
  have HXt := Lib.hid hx
  have cx : t4.cell? ⟨ob, 4, none⟩ = some (.int .i64 0) := hx.cell 4
  have zx : t4.frozen? ⟨ob, 4, none⟩ = false := hx.frozen 4
  have HRt := Lib.hid (show RfAt t4 p (Wr.ks 5 ⟨l, 0⟩) from h1)
  have HQt := Lib.hid (HQ7.out.chg h2 (by omega))
  have HBt := Lib.hid (HB7.out.trans (h2.below (B := w.heap.size) (fun k e => by omega) HB7.out.size))
  clear h1 h2 hx
  go_wp2_with fail
  have hc : Chg (· = ob) t4 (t4.setCell ⟨ob, 4, none⟩ (.int .i64 v4)) := Chg.setCell t4 ⟨ob, 4, none⟩ (.int .i64 v4)
  have HX8 := Lib.hid (show Blk (t4.setCell ⟨ob, 4, none⟩ (.int .i64 v4)) ob 45 #[.int .i64 v0, .int .i64 v1, .int .i64 v2, .int .i64 v3, .int .i64 v4] from HXt.out.set_ 4 (.int .i64 v4))
  have HR8 := Lib.hid (HRt.out.chg hc (fun k e => by omega))
  have HQ8 := Lib.hid (HQt.out.chg hc (by omega))
  have HB8 := Lib.hid (HBt.out.trans (hc.below (B := w.heap.size) (fun k e => by omega) HBt.out.size))
  obtain ⟨u5, hu5⟩ : ∃ u5, t4.setCell ⟨ob, 4, none⟩ (.int .i64 v4) = u5 := ⟨_, rfl⟩
  rw [hu5] at HX8 HR8 HQ8 HB8 ⊢
  clear hc hu5 cx zx HXt HRt HQt HBt
  refine (refEnd_any _ p _ HR8.out).mono ?_
  rintro e t5 ⟨rfl, rfl⟩
  rw [HFN.out]
  by_cases hf : Wr.fin (Wr.rs 5 ⟨l, 0⟩) = 0
  · have hfq : (Wr.fin (Wr.rs 5 ⟨l, 0⟩) != 0) = false := by simpa using hf
    have HF := Lib.hid (show (Wr.fin (Wr.rs 5 ⟨l, 0⟩) == 0) = true by simpa using hf)
    clear hf
    have hx0 : u5.cell? ⟨ob, 0, none⟩ = some (.int .i64 v0) := HX8.out.cell 0
    have hx1 : u5.cell? ⟨ob, 1, none⟩ = some (.int .i64 v1) := HX8.out.cell 1
    have hx2 : u5.cell? ⟨ob, 2, none⟩ = some (.int .i64 v2) := HX8.out.cell 2
    have hx3 : u5.cell? ⟨ob, 3, none⟩ = some (.int .i64 v3) := HX8.out.cell 3
    have hx4 : u5.cell? ⟨ob, 4, none⟩ = some (.int .i64 v4) := HX8.out.cell 4
    go_wp2_with fail
    refine (fit_any ⟨v0, v1, v2, v3, v4⟩ _).mono ?_
    rintro e w7 ⟨rfl, h7⟩
    have HQ9 := Lib.hid (HQ8.out.low h7)
    have HB9 := Lib.hid (HB8.out.trans (h7.mono HB8.out.size))
    have HX9 := Lib.hid (HX8.out.low h7)
    clear h7 hx0 hx1 hx2 hx3 hx4
    have hx0 : w7.cell? ⟨ob, 0, none⟩ = some (.int .i64 v0) := HX9.out.cell 0
    have hx1 : w7.cell? ⟨ob, 1, none⟩ = some (.int .i64 v1) := HX9.out.cell 1
    have hx2 : w7.cell? ⟨ob, 2, none⟩ = some (.int .i64 v2) := HX9.out.cell 2
    have hx3 : w7.cell? ⟨ob, 3, none⟩ = some (.int .i64 v3) := HX9.out.cell 3
    have hx4 : w7.cell? ⟨ob, 4, none⟩ = some (.int .i64 v4) := HX9.out.cell 4
    cases hv : Or.fit ⟨v0, v1, v2, v3, v4⟩ with
    | true =>
      have HOK := Lib.hid (show Or.okS l = true by unfold Or.okS; rw [HF.out, HOF.out, hv]; rfl)
      have HDEC := Lib.hid (show Or.decS l = ⟨v0, v1, v2, v3, v4⟩ by unfold Or.decS; rw [HOK.out, ← HOF.out]; rfl)
      clear hv
      have q0 := HQ9.out.cell 0
      have q1 := HQ9.out.cell 1
      have q2 := HQ9.out.cell 2
      have q3 := HQ9.out.cell 3
      have q4 := HQ9.out.cell 4
      have z0 := HQ9.out.frozen 0
      have z1 := HQ9.out.frozen 1
      have z2 := HQ9.out.frozen 2
      have z3 := HQ9.out.frozen 3
      have z4 := HQ9.out.frozen 4
      simp [five] at q0 q1 q2 q3 q4
      have HST := Lib.hid (store5 HQ9.out (.int .i64 v0) (.int .i64 v1) (.int .i64 v2) (.int .i64 v3) (.int .i64 v4))
      go_wp2_with fail
      have r0 := HST.out.1.cell 0
      have r1 := HST.out.1.cell 1
      have r2 := HST.out.1.cell 2
      have r3 := HST.out.1.cell 3
      have r4 := HST.out.1.cell 4
      simp only [List.getElem?_toArray, List.getElem?_cons_zero, List.getElem?_cons_succ] at r0 r1 r2 r3 r4
      exact bodyPost_ret (v := .tuple #[.agg #[.int .i64 v0, .int .i64 v1, .int .i64 v2, .int .i64 v3, .int .i64 v4], .int .i64 0]) (by simp [results, Try.results26, go_sem, r0, r1, r2, r3, r4]) rfl ⟨by rw [HDEC.out, HOK.out]; rfl, HB9.out.trans (HST.out.2.below (fun k e => by omega) HB9.out.size)⟩
    | false =>
      have HOK := Lib.hid (show Or.okS l = false by unfold Or.okS; rw [HF.out, HOF.out, hv]; rfl)
      have HDEC := Lib.hid (show Or.decS l = ⟨0, 0, 0, 0, 0⟩ by unfold Or.decS; rw [HOK.out]; rfl)
      clear hv
      have q0 := HQ9.out.cell 0
      have q1 := HQ9.out.cell 1
      have q2 := HQ9.out.cell 2
      have q3 := HQ9.out.cell 3
      have q4 := HQ9.out.cell 4
      have z0 := HQ9.out.frozen 0
      have z1 := HQ9.out.frozen 1
      have z2 := HQ9.out.frozen 2
      have z3 := HQ9.out.frozen 3
      have z4 := HQ9.out.frozen 4
      simp [five] at q0 q1 q2 q3 q4
      have HST := Lib.hid (store5 HQ9.out (.int .i64 0) (.int .i64 0) (.int .i64 0) (.int .i64 0) (.int .i64 0))
      go_wp2_with fail
      have r0 := HST.out.1.cell 0
      have r1 := HST.out.1.cell 1
      have r2 := HST.out.1.cell 2
      have r3 := HST.out.1.cell 3
      have r4 := HST.out.1.cell 4
      simp only [List.getElem?_toArray, List.getElem?_cons_zero, List.getElem?_cons_succ] at r0 r1 r2 r3 r4
      exact bodyPost_ret (v := .tuple #[.agg #[.int .i64 0, .int .i64 0, .int .i64 0, .int .i64 0, .int .i64 0], .int .i64 2]) (by simp [results, Try.results26, go_sem, r0, r1, r2, r3, r4]) rfl ⟨by rw [HDEC.out, HOK.out]; rfl, HB9.out.trans (HST.out.2.below (fun k e => by omega) HB9.out.size)⟩
  · have hfq : (Wr.fin (Wr.rs 5 ⟨l, 0⟩) != 0) = true := by simpa using hf
    have HOK := Lib.hid (show Or.okS l = false by unfold Or.okS; rw [show (Wr.fin (Wr.rs 5 ⟨l, 0⟩) == 0) = false by simpa using hf]; rfl)
    have HDEC := Lib.hid (show Or.decS l = ⟨0, 0, 0, 0, 0⟩ by unfold Or.decS; rw [HOK.out]; rfl)
    clear hf
    have q0 := HQ8.out.cell 0
    have q1 := HQ8.out.cell 1
    have q2 := HQ8.out.cell 2
    have q3 := HQ8.out.cell 3
    have q4 := HQ8.out.cell 4
    have z0 := HQ8.out.frozen 0
    have z1 := HQ8.out.frozen 1
    have z2 := HQ8.out.frozen 2
    have z3 := HQ8.out.frozen 3
    have z4 := HQ8.out.frozen 4
    simp [five] at q0 q1 q2 q3 q4
    have HST := Lib.hid (store5 HQ8.out (.int .i64 0) (.int .i64 0) (.int .i64 0) (.int .i64 0) (.int .i64 0))
    go_wp2_with fail
    have r0 := HST.out.1.cell 0
    have r1 := HST.out.1.cell 1
    have r2 := HST.out.1.cell 2
    have r3 := HST.out.1.cell 3
    have r4 := HST.out.1.cell 4
    simp only [List.getElem?_toArray, List.getElem?_cons_zero, List.getElem?_cons_succ] at r0 r1 r2 r3 r4
    exact bodyPost_ret (v := .tuple #[.agg #[.int .i64 0, .int .i64 0, .int .i64 0, .int .i64 0, .int .i64 0], .int .i64 2]) (by simp [results, Try.results26, go_sem, r0, r1, r2, r3, r4]) rfl ⟨by rw [HDEC.out, HOK.out]; rfl, HB8.out.trans (HST.out.2.below (fun k e => by omega) HB8.out.size)⟩
end Go.Proofs.Ytikbenngbaicoaa
