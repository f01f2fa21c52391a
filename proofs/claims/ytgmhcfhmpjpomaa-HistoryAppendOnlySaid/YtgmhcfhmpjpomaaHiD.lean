/- Layer 49: the walks of Verify. -/
import Derived.Test.YtgmhcfhmpjpomaaHiK
namespace Go.Proofs.Ytgmhcfhmpjpomaa
set_option linter.unusedSimpArgs false
set_option linter.unusedVariables false
open Go.RowKit

set_option maxRecDepth 100000 in
set_option maxHeartbeats 4000000 in
theorem verify_any (w : World) (A : Option Addr) (l : List Hi.V) (c : Nat) (h : Rd w A (Hi.vals l)) (hl : l.length ≤ 10000) :
    Calls Try.prog 15 #[.slice A l.length c] w fun e w' => e = .returned (.int .i64 (Hi.chk l)) ∧ Below w.heap.size w w' := by
  have HR := Lib.hid h
  clear h
  go_enter Try.func15, Try.ntmps15
  go_wp2_with (go_at_call 26; refine (sum_any none [] 0 _ (Rd.nil _ _) (by unfold maxLen; simp)).mono ?_; rw [Ck.moreI_nil]; rintro e w' ⟨rfl, rfl⟩)
  go_loopw [3, 9] (fun prev i wr => ∃ (k : Nat) (p : Int), k ≤ l.length ∧ i = .int .i64 k ∧ prev = .int .u64 p ∧ Hid (p = Hi.prevAt l k ∧ (∀ j, j < k → Hi.badAt l j = false) ∧ Below w.heap.size w wr)) (fun _ i _ => l.length - (intOf i).toNat)
  case atStart => exact ⟨0, _, Nat.zero_le _, rfl, rfl, ⟨rfl, fun j hj => by omega, Below.refl _ _⟩⟩
  case round =>
    obtain ⟨k, p, hk, rfl, rfl, hrel⟩ := hrel
    have HP := Lib.hid hrel.out.1
    have HG := Lib.hid hrel.out.2.1
    have HB := Lib.hid hrel.out.2.2
    clear hrel
    by_cases hlt : k < l.length
    · obtain ⟨ad, bk, of_, hA, hadd, k0, k1, k2, k3, k4⟩ := rd_vals (HR.out.low HB.out) k hlt
      obtain ⟨v, hv⟩ : ∃ v, l[k] = v := ⟨_, rfl⟩
      rw [hv] at k0 k1 k2 k3 k4
      have HV := Lib.hid (Hi.getD_at hlt hv)
      have hk' : (k : Int) < (l.length : Int) := by omega
      have hk0 : (0 : Int) ≤ (k : Int) := by omega
      subst hA
      clear hv
      cases hrt : Hi.rg v.t with
      | false =>
        have HQ := Lib.hid (Hi.chk_hit hlt (show Hi.badAt l k = true by unfold Hi.badAt Hi.badV; rw [HV.out, ← HP.out]; rw [hrt]; rfl) HG.out)
        have HRD := Lib.hid (HR.out.low HB.out)
        go_wp2_with fail
        obtain ⟨bx, hbk_⟩ : ∃ b, wr.heap.size = b := ⟨_, rfl⟩
        have NX_ := Lib.hid (Blk.new' wr 30 #[.int .i64 v.t, .int .i64 v.e, .int .u64 v.b, .int .u64 v.d, .int .u64 v.s] bx hbk_)
        have TRD_ := Lib.hid ((HRD.out.low ((Below.refl _ _).alloc (Nat.le_refl _) (.cells #[.int .i64 v.t, .int .i64 v.e, .int .u64 v.b, .int .u64 v.d, .int .u64 v.s] 30))))
        have TB_ := Lib.hid (HB.out.alloc HB.out.size (.cells #[.int .i64 v.t, .int .i64 v.e, .int .u64 v.b, .int .u64 v.d, .int .u64 v.s] 30))
        clear HB HRD
        have HRD := Lib.hid TRD_.out
        have HB := Lib.hid TB_.out
        clear TB_ TRD_
        try rw [hbk_]
        obtain ⟨w1, hw_⟩ : ∃ w', wr.alloc (.cells #[.int .i64 v.t, .int .i64 v.e, .int .u64 v.b, .int .u64 v.d, .int .u64 v.s] 30) = w' := ⟨_, rfl⟩
        rw [hw_] at NX_ HB HRD ⊢
        have HX := Lib.hid NX_.out
        clear hw_ hbk_ NX_
        have x0_ : w1.cell? ⟨bx, 0, none⟩ = some (.int .i64 v.t) := HX.out.cell 0
        have x1_ : w1.cell? ⟨bx, 1, none⟩ = some (.int .i64 v.e) := HX.out.cell 1
        have x2_ : w1.cell? ⟨bx, 2, none⟩ = some (.int .u64 v.b) := HX.out.cell 2
        have x3_ : w1.cell? ⟨bx, 3, none⟩ = some (.int .u64 v.d) := HX.out.cell 3
        have x4_ : w1.cell? ⟨bx, 4, none⟩ = some (.int .u64 v.s) := HX.out.cell 4
        have ltX_ := HX.out.lt
        clear k0 k1 k2 k3 k4
        have qx0_ := cell_regrown x0_
        have qx1_ := cell_regrown x1_
        have qx2_ := cell_regrown x2_
        have qx3_ := cell_regrown x3_
        have qx4_ := cell_regrown x4_
        have cT := calls_qb0 (w := w1) (fun w' _ => hrg_any v.t w')
        have cE := calls_qb0 (w := w1) (fun w' _ => hrg_any v.e w')
        have cS := calls_qb (w := w1) (fun w' _ => seal_any p v w')
        refine wp_region_qb (by kernel_rfl) (by kernel_rfl) ?_
        repeat (first | go_big_quiet_step (first | exact cT _ _ | exact cE _ _ | exact cS _ _) | quiet_step (first | exact cT _ _ | exact cE _ _ | exact cS _ _))
        refine wpQuiet_nil ?_
        intro w2 hb
        clear qx0_ qx1_ qx2_ qx3_ qx4_ cT cE cS
        have TRD_ := Lib.hid (HRD.out.low hb)
        have TX_ := Lib.hid (HX.out.low hb)
        have TB_ := Lib.hid (HB.out.trans (hb.mono HB.out.size))
        clear x0_ x1_ x2_ x3_ x4_ ltX_
        clear HB HRD HX
        have HRD := Lib.hid TRD_.out
        have HX := Lib.hid TX_.out
        have HB := Lib.hid TB_.out
        clear TB_ TRD_ TX_
        clear hb
        have x0_ : w2.cell? ⟨bx, 0, none⟩ = some (.int .i64 v.t) := HX.out.cell 0
        have x1_ : w2.cell? ⟨bx, 1, none⟩ = some (.int .i64 v.e) := HX.out.cell 1
        have x2_ : w2.cell? ⟨bx, 2, none⟩ = some (.int .u64 v.b) := HX.out.cell 2
        have x3_ : w2.cell? ⟨bx, 3, none⟩ = some (.int .u64 v.d) := HX.out.cell 3
        have x4_ : w2.cell? ⟨bx, 4, none⟩ = some (.int .u64 v.s) := HX.out.cell 4
        have ltX_ := HX.out.lt
        go_wp2
        go_ret
        exact ⟨ret_int HQ.out.symm, HB.out⟩
      | true =>
        cases hre : Hi.rg v.e with
        | false =>
          have HQ := Lib.hid (Hi.chk_hit hlt (show Hi.badAt l k = true by unfold Hi.badAt Hi.badV; rw [HV.out, ← HP.out]; rw [hrt, hre]; rfl) HG.out)
          have HRD := Lib.hid (HR.out.low HB.out)
          go_wp2_with fail
          obtain ⟨bx, hbk_⟩ : ∃ b, wr.heap.size = b := ⟨_, rfl⟩
          have NX_ := Lib.hid (Blk.new' wr 30 #[.int .i64 v.t, .int .i64 v.e, .int .u64 v.b, .int .u64 v.d, .int .u64 v.s] bx hbk_)
          have TRD_ := Lib.hid ((HRD.out.low ((Below.refl _ _).alloc (Nat.le_refl _) (.cells #[.int .i64 v.t, .int .i64 v.e, .int .u64 v.b, .int .u64 v.d, .int .u64 v.s] 30))))
          have TB_ := Lib.hid (HB.out.alloc HB.out.size (.cells #[.int .i64 v.t, .int .i64 v.e, .int .u64 v.b, .int .u64 v.d, .int .u64 v.s] 30))
          clear HB HRD
          have HRD := Lib.hid TRD_.out
          have HB := Lib.hid TB_.out
          clear TB_ TRD_
          try rw [hbk_]
          obtain ⟨w1, hw_⟩ : ∃ w', wr.alloc (.cells #[.int .i64 v.t, .int .i64 v.e, .int .u64 v.b, .int .u64 v.d, .int .u64 v.s] 30) = w' := ⟨_, rfl⟩
          rw [hw_] at NX_ HB HRD ⊢
          have HX := Lib.hid NX_.out
          clear hw_ hbk_ NX_
          have x0_ : w1.cell? ⟨bx, 0, none⟩ = some (.int .i64 v.t) := HX.out.cell 0
          have x1_ : w1.cell? ⟨bx, 1, none⟩ = some (.int .i64 v.e) := HX.out.cell 1
          have x2_ : w1.cell? ⟨bx, 2, none⟩ = some (.int .u64 v.b) := HX.out.cell 2
          have x3_ : w1.cell? ⟨bx, 3, none⟩ = some (.int .u64 v.d) := HX.out.cell 3
          have x4_ : w1.cell? ⟨bx, 4, none⟩ = some (.int .u64 v.s) := HX.out.cell 4
          have ltX_ := HX.out.lt
          clear k0 k1 k2 k3 k4
          have qx0_ := cell_regrown x0_
          have qx1_ := cell_regrown x1_
          have qx2_ := cell_regrown x2_
          have qx3_ := cell_regrown x3_
          have qx4_ := cell_regrown x4_
          have cT := calls_qb0 (w := w1) (fun w' _ => hrg_any v.t w')
          have cE := calls_qb0 (w := w1) (fun w' _ => hrg_any v.e w')
          have cS := calls_qb (w := w1) (fun w' _ => seal_any p v w')
          refine wp_region_qb (by kernel_rfl) (by kernel_rfl) ?_
          repeat (first | go_big_quiet_step (first | exact cT _ _ | exact cE _ _ | exact cS _ _) | quiet_step (first | exact cT _ _ | exact cE _ _ | exact cS _ _))
          refine wpQuiet_nil ?_
          intro w2 hb
          clear qx0_ qx1_ qx2_ qx3_ qx4_ cT cE cS
          have TRD_ := Lib.hid (HRD.out.low hb)
          have TX_ := Lib.hid (HX.out.low hb)
          have TB_ := Lib.hid (HB.out.trans (hb.mono HB.out.size))
          clear x0_ x1_ x2_ x3_ x4_ ltX_
          clear HB HRD HX
          have HRD := Lib.hid TRD_.out
          have HX := Lib.hid TX_.out
          have HB := Lib.hid TB_.out
          clear TB_ TRD_ TX_
          clear hb
          have x0_ : w2.cell? ⟨bx, 0, none⟩ = some (.int .i64 v.t) := HX.out.cell 0
          have x1_ : w2.cell? ⟨bx, 1, none⟩ = some (.int .i64 v.e) := HX.out.cell 1
          have x2_ : w2.cell? ⟨bx, 2, none⟩ = some (.int .u64 v.b) := HX.out.cell 2
          have x3_ : w2.cell? ⟨bx, 3, none⟩ = some (.int .u64 v.d) := HX.out.cell 3
          have x4_ : w2.cell? ⟨bx, 4, none⟩ = some (.int .u64 v.s) := HX.out.cell 4
          have ltX_ := HX.out.lt
          go_wp2
          go_ret
          exact ⟨ret_int HQ.out.symm, HB.out⟩
        | true =>
          cases hs : (v.s != Hi.sl p v) with
          | true =>
            have HQ := Lib.hid (Hi.chk_hit hlt (show Hi.badAt l k = true by unfold Hi.badAt Hi.badV; rw [HV.out, ← HP.out]; rw [hrt, hre, hs]; rfl) HG.out)
            have HRD := Lib.hid (HR.out.low HB.out)
            go_wp2_with fail
            obtain ⟨bx, hbk_⟩ : ∃ b, wr.heap.size = b := ⟨_, rfl⟩
            have NX_ := Lib.hid (Blk.new' wr 30 #[.int .i64 v.t, .int .i64 v.e, .int .u64 v.b, .int .u64 v.d, .int .u64 v.s] bx hbk_)
            have TRD_ := Lib.hid ((HRD.out.low ((Below.refl _ _).alloc (Nat.le_refl _) (.cells #[.int .i64 v.t, .int .i64 v.e, .int .u64 v.b, .int .u64 v.d, .int .u64 v.s] 30))))
            have TB_ := Lib.hid (HB.out.alloc HB.out.size (.cells #[.int .i64 v.t, .int .i64 v.e, .int .u64 v.b, .int .u64 v.d, .int .u64 v.s] 30))
            clear HB HRD
            have HRD := Lib.hid TRD_.out
            have HB := Lib.hid TB_.out
            clear TB_ TRD_
            try rw [hbk_]
            obtain ⟨w1, hw_⟩ : ∃ w', wr.alloc (.cells #[.int .i64 v.t, .int .i64 v.e, .int .u64 v.b, .int .u64 v.d, .int .u64 v.s] 30) = w' := ⟨_, rfl⟩
            rw [hw_] at NX_ HB HRD ⊢
            have HX := Lib.hid NX_.out
            clear hw_ hbk_ NX_
            have x0_ : w1.cell? ⟨bx, 0, none⟩ = some (.int .i64 v.t) := HX.out.cell 0
            have x1_ : w1.cell? ⟨bx, 1, none⟩ = some (.int .i64 v.e) := HX.out.cell 1
            have x2_ : w1.cell? ⟨bx, 2, none⟩ = some (.int .u64 v.b) := HX.out.cell 2
            have x3_ : w1.cell? ⟨bx, 3, none⟩ = some (.int .u64 v.d) := HX.out.cell 3
            have x4_ : w1.cell? ⟨bx, 4, none⟩ = some (.int .u64 v.s) := HX.out.cell 4
            have ltX_ := HX.out.lt
            clear k0 k1 k2 k3 k4
            have qx0_ := cell_regrown x0_
            have qx1_ := cell_regrown x1_
            have qx2_ := cell_regrown x2_
            have qx3_ := cell_regrown x3_
            have qx4_ := cell_regrown x4_
            have cT := calls_qb0 (w := w1) (fun w' _ => hrg_any v.t w')
            have cE := calls_qb0 (w := w1) (fun w' _ => hrg_any v.e w')
            have cS := calls_qb (w := w1) (fun w' _ => seal_any p v w')
            refine wp_region_qb (by kernel_rfl) (by kernel_rfl) ?_
            repeat (first | go_big_quiet_step (first | exact cT _ _ | exact cE _ _ | exact cS _ _) | quiet_step (first | exact cT _ _ | exact cE _ _ | exact cS _ _))
            refine wpQuiet_nil ?_
            intro w2 hb
            clear qx0_ qx1_ qx2_ qx3_ qx4_ cT cE cS
            have TRD_ := Lib.hid (HRD.out.low hb)
            have TX_ := Lib.hid (HX.out.low hb)
            have TB_ := Lib.hid (HB.out.trans (hb.mono HB.out.size))
            clear x0_ x1_ x2_ x3_ x4_ ltX_
            clear HB HRD HX
            have HRD := Lib.hid TRD_.out
            have HX := Lib.hid TX_.out
            have HB := Lib.hid TB_.out
            clear TB_ TRD_ TX_
            clear hb
            have x0_ : w2.cell? ⟨bx, 0, none⟩ = some (.int .i64 v.t) := HX.out.cell 0
            have x1_ : w2.cell? ⟨bx, 1, none⟩ = some (.int .i64 v.e) := HX.out.cell 1
            have x2_ : w2.cell? ⟨bx, 2, none⟩ = some (.int .u64 v.b) := HX.out.cell 2
            have x3_ : w2.cell? ⟨bx, 3, none⟩ = some (.int .u64 v.d) := HX.out.cell 3
            have x4_ : w2.cell? ⟨bx, 4, none⟩ = some (.int .u64 v.s) := HX.out.cell 4
            have ltX_ := HX.out.lt
            go_wp2
            go_ret
            exact ⟨ret_int HQ.out.symm, HB.out⟩
          | false =>
            have hgood : Hi.badV p v = false := by unfold Hi.badV; rw [hrt, hre, hs]; rfl
            have HGV := Lib.hid hgood
            clear hgood
            by_cases hkz : 0 < k
            · have hkp := hkz
              have hkp2 : (0 : Int) < (k : Int) := by omega
              obtain ⟨m, hm⟩ : ∃ m, k = m + 1 := ⟨k - 1, by omega⟩
              have hmk : (k : Int) - 1 = (m : Int) := by omega
              have hwk : IntKind.i64.wrap ((k : Int) - 1) = (m : Int) := by rw [IntKind.wrap_i64]; omega
              have hml : m < l.length := by omega
              have hm0 : (0 : Int) ≤ (m : Int) := by omega
              have hml' : (m : Int) < (l.length : Int) := by omega
              obtain ⟨ad', bk', of', hA', hadd', m0, m1, m2, m3, m4⟩ := rd_vals (HR.out.low HB.out) m hml
              obtain ⟨x, hx⟩ : ∃ x, l[m] = x := ⟨_, rfl⟩
              rw [hx] at m0 m1 m2 m3 m4
              have HXV := Lib.hid (show l.getD (k - 1) Hi.zero = x by rw [show k - 1 = m by omega]; exact Hi.getD_at hml hx)
              obtain rfl : ad = ad' := by injection hA'
              have HM := Lib.hid hm
              have HXE := Lib.hid hx
              clear hm hx hA' hadd' m0 m1 m2 m3 m4
              by_cases hb1 : v.t < x.t
              · skip
                have HQ := Lib.hid (Hi.chk_hit hlt (show Hi.badAt l k = true by unfold Hi.badAt; rw [HV.out, HXV.out, ← HP.out, HGV.out, decide_eq_true hkp]; unfold Hi.badP; rw [decide_eq_true (show v.t < x.t ∨ v.e < x.e from .inl hb1)]; rfl) HG.out)
                have HRD := Lib.hid (HR.out.low HB.out)
                go_wp2_with fail
                obtain ⟨bx, hbk_⟩ : ∃ b, wr.heap.size = b := ⟨_, rfl⟩
                have NX_ := Lib.hid (Blk.new' wr 30 #[.int .i64 v.t, .int .i64 v.e, .int .u64 v.b, .int .u64 v.d, .int .u64 v.s] bx hbk_)
                have TRD_ := Lib.hid ((HRD.out.low ((Below.refl _ _).alloc (Nat.le_refl _) (.cells #[.int .i64 v.t, .int .i64 v.e, .int .u64 v.b, .int .u64 v.d, .int .u64 v.s] 30))))
                have TB_ := Lib.hid (HB.out.alloc HB.out.size (.cells #[.int .i64 v.t, .int .i64 v.e, .int .u64 v.b, .int .u64 v.d, .int .u64 v.s] 30))
                clear HB HRD
                have HRD := Lib.hid TRD_.out
                have HB := Lib.hid TB_.out
                clear TB_ TRD_
                try rw [hbk_]
                obtain ⟨w1, hw_⟩ : ∃ w', wr.alloc (.cells #[.int .i64 v.t, .int .i64 v.e, .int .u64 v.b, .int .u64 v.d, .int .u64 v.s] 30) = w' := ⟨_, rfl⟩
                rw [hw_] at NX_ HB HRD ⊢
                have HX := Lib.hid NX_.out
                clear hw_ hbk_ NX_
                have x0_ : w1.cell? ⟨bx, 0, none⟩ = some (.int .i64 v.t) := HX.out.cell 0
                have x1_ : w1.cell? ⟨bx, 1, none⟩ = some (.int .i64 v.e) := HX.out.cell 1
                have x2_ : w1.cell? ⟨bx, 2, none⟩ = some (.int .u64 v.b) := HX.out.cell 2
                have x3_ : w1.cell? ⟨bx, 3, none⟩ = some (.int .u64 v.d) := HX.out.cell 3
                have x4_ : w1.cell? ⟨bx, 4, none⟩ = some (.int .u64 v.s) := HX.out.cell 4
                have ltX_ := HX.out.lt
                clear k0 k1 k2 k3 k4
                have qx0_ := cell_regrown x0_
                have qx1_ := cell_regrown x1_
                have qx2_ := cell_regrown x2_
                have qx3_ := cell_regrown x3_
                have qx4_ := cell_regrown x4_
                have cT := calls_qb0 (w := w1) (fun w' _ => hrg_any v.t w')
                have cE := calls_qb0 (w := w1) (fun w' _ => hrg_any v.e w')
                have cS := calls_qb (w := w1) (fun w' _ => seal_any p v w')
                refine wp_region_qb (by kernel_rfl) (by kernel_rfl) ?_
                repeat (first | go_big_quiet_step (first | exact cT _ _ | exact cE _ _ | exact cS _ _) | quiet_step (first | exact cT _ _ | exact cE _ _ | exact cS _ _))
                refine wpQuiet_nil ?_
                intro w2 hb
                clear qx0_ qx1_ qx2_ qx3_ qx4_ cT cE cS
                have TRD_ := Lib.hid (HRD.out.low hb)
                have TX_ := Lib.hid (HX.out.low hb)
                have TB_ := Lib.hid (HB.out.trans (hb.mono HB.out.size))
                clear x0_ x1_ x2_ x3_ x4_ ltX_
                clear HB HRD HX
                have HRD := Lib.hid TRD_.out
                have HX := Lib.hid TX_.out
                have HB := Lib.hid TB_.out
                clear TB_ TRD_ TX_
                clear hb
                have x0_ : w2.cell? ⟨bx, 0, none⟩ = some (.int .i64 v.t) := HX.out.cell 0
                have x1_ : w2.cell? ⟨bx, 1, none⟩ = some (.int .i64 v.e) := HX.out.cell 1
                have x2_ : w2.cell? ⟨bx, 2, none⟩ = some (.int .u64 v.b) := HX.out.cell 2
                have x3_ : w2.cell? ⟨bx, 3, none⟩ = some (.int .u64 v.d) := HX.out.cell 3
                have x4_ : w2.cell? ⟨bx, 4, none⟩ = some (.int .u64 v.s) := HX.out.cell 4
                have ltX_ := HX.out.lt
                obtain ⟨ad2, bk2, of2, hA2, hadd2, m0, m1, m2, m3, m4⟩ := rd_vals HRD.out m hml
                rw [show l[m] = x from HXE.out] at m0 m1 m2 m3 m4
                obtain rfl : ad = ad2 := by injection hA2
                clear hA2
                go_wp2
                have cA := calls_qb (w := w2) (fun w' _ => same_any x v w')
                have qx0_ := cell_regrown x0_
                have qx1_ := cell_regrown x1_
                have qx2_ := cell_regrown x2_
                have qx3_ := cell_regrown x3_
                have qx4_ := cell_regrown x4_
                have qm0 := cell_regrown m0
                have qm1 := cell_regrown m1
                have qm2 := cell_regrown m2
                have qm3 := cell_regrown m3
                have qm4 := cell_regrown m4
                refine wp_region_qb (by kernel_rfl) (by kernel_rfl) ?_
                repeat (first | go_big_quiet_step (exact cA _ _) | quiet_step (exact cA _ _))
                refine wpQuiet_nil ?_
                intro w3 hb
                clear cA qx0_ qx1_ qx2_ qx3_ qx4_ qm0 qm1 qm2 qm3 qm4
                have TRD_ := Lib.hid (HRD.out.low hb)
                have TX_ := Lib.hid (HX.out.low hb)
                have TB_ := Lib.hid (HB.out.trans (hb.mono HB.out.size))
                clear x0_ x1_ x2_ x3_ x4_ ltX_ m0 m1 m2 m3 m4
                clear HB HRD HX
                have HRD := Lib.hid TRD_.out
                have HX := Lib.hid TX_.out
                have HB := Lib.hid TB_.out
                clear TB_ TRD_ TX_
                clear hb
                have x0_ : w3.cell? ⟨bx, 0, none⟩ = some (.int .i64 v.t) := HX.out.cell 0
                have x1_ : w3.cell? ⟨bx, 1, none⟩ = some (.int .i64 v.e) := HX.out.cell 1
                have x2_ : w3.cell? ⟨bx, 2, none⟩ = some (.int .u64 v.b) := HX.out.cell 2
                have x3_ : w3.cell? ⟨bx, 3, none⟩ = some (.int .u64 v.d) := HX.out.cell 3
                have x4_ : w3.cell? ⟨bx, 4, none⟩ = some (.int .u64 v.s) := HX.out.cell 4
                have ltX_ := HX.out.lt
                go_wp2
                go_ret
                exact ⟨ret_int HQ.out.symm, HB.out⟩
              · skip
                by_cases hb2 : v.e < x.e
                · skip
                  have hd1 : decide (v.t < x.t) = false := decide_eq_false hb1
                  have HQ := Lib.hid (Hi.chk_hit hlt (show Hi.badAt l k = true by unfold Hi.badAt; rw [HV.out, HXV.out, ← HP.out, HGV.out, decide_eq_true hkp]; unfold Hi.badP; rw [decide_eq_true (show v.t < x.t ∨ v.e < x.e from .inr hb2)]; rfl) HG.out)
                  have HRD := Lib.hid (HR.out.low HB.out)
                  go_wp2_with fail
                  obtain ⟨bx, hbk_⟩ : ∃ b, wr.heap.size = b := ⟨_, rfl⟩
                  have NX_ := Lib.hid (Blk.new' wr 30 #[.int .i64 v.t, .int .i64 v.e, .int .u64 v.b, .int .u64 v.d, .int .u64 v.s] bx hbk_)
                  have TRD_ := Lib.hid ((HRD.out.low ((Below.refl _ _).alloc (Nat.le_refl _) (.cells #[.int .i64 v.t, .int .i64 v.e, .int .u64 v.b, .int .u64 v.d, .int .u64 v.s] 30))))
                  have TB_ := Lib.hid (HB.out.alloc HB.out.size (.cells #[.int .i64 v.t, .int .i64 v.e, .int .u64 v.b, .int .u64 v.d, .int .u64 v.s] 30))
                  clear HB HRD
                  have HRD := Lib.hid TRD_.out
                  have HB := Lib.hid TB_.out
                  clear TB_ TRD_
                  try rw [hbk_]
                  obtain ⟨w1, hw_⟩ : ∃ w', wr.alloc (.cells #[.int .i64 v.t, .int .i64 v.e, .int .u64 v.b, .int .u64 v.d, .int .u64 v.s] 30) = w' := ⟨_, rfl⟩
                  rw [hw_] at NX_ HB HRD ⊢
                  have HX := Lib.hid NX_.out
                  clear hw_ hbk_ NX_
                  have x0_ : w1.cell? ⟨bx, 0, none⟩ = some (.int .i64 v.t) := HX.out.cell 0
                  have x1_ : w1.cell? ⟨bx, 1, none⟩ = some (.int .i64 v.e) := HX.out.cell 1
                  have x2_ : w1.cell? ⟨bx, 2, none⟩ = some (.int .u64 v.b) := HX.out.cell 2
                  have x3_ : w1.cell? ⟨bx, 3, none⟩ = some (.int .u64 v.d) := HX.out.cell 3
                  have x4_ : w1.cell? ⟨bx, 4, none⟩ = some (.int .u64 v.s) := HX.out.cell 4
                  have ltX_ := HX.out.lt
                  clear k0 k1 k2 k3 k4
                  have qx0_ := cell_regrown x0_
                  have qx1_ := cell_regrown x1_
                  have qx2_ := cell_regrown x2_
                  have qx3_ := cell_regrown x3_
                  have qx4_ := cell_regrown x4_
                  have cT := calls_qb0 (w := w1) (fun w' _ => hrg_any v.t w')
                  have cE := calls_qb0 (w := w1) (fun w' _ => hrg_any v.e w')
                  have cS := calls_qb (w := w1) (fun w' _ => seal_any p v w')
                  refine wp_region_qb (by kernel_rfl) (by kernel_rfl) ?_
                  repeat (first | go_big_quiet_step (first | exact cT _ _ | exact cE _ _ | exact cS _ _) | quiet_step (first | exact cT _ _ | exact cE _ _ | exact cS _ _))
                  refine wpQuiet_nil ?_
                  intro w2 hb
                  clear qx0_ qx1_ qx2_ qx3_ qx4_ cT cE cS
                  have TRD_ := Lib.hid (HRD.out.low hb)
                  have TX_ := Lib.hid (HX.out.low hb)
                  have TB_ := Lib.hid (HB.out.trans (hb.mono HB.out.size))
                  clear x0_ x1_ x2_ x3_ x4_ ltX_
                  clear HB HRD HX
                  have HRD := Lib.hid TRD_.out
                  have HX := Lib.hid TX_.out
                  have HB := Lib.hid TB_.out
                  clear TB_ TRD_ TX_
                  clear hb
                  have x0_ : w2.cell? ⟨bx, 0, none⟩ = some (.int .i64 v.t) := HX.out.cell 0
                  have x1_ : w2.cell? ⟨bx, 1, none⟩ = some (.int .i64 v.e) := HX.out.cell 1
                  have x2_ : w2.cell? ⟨bx, 2, none⟩ = some (.int .u64 v.b) := HX.out.cell 2
                  have x3_ : w2.cell? ⟨bx, 3, none⟩ = some (.int .u64 v.d) := HX.out.cell 3
                  have x4_ : w2.cell? ⟨bx, 4, none⟩ = some (.int .u64 v.s) := HX.out.cell 4
                  have ltX_ := HX.out.lt
                  obtain ⟨ad2, bk2, of2, hA2, hadd2, m0, m1, m2, m3, m4⟩ := rd_vals HRD.out m hml
                  rw [show l[m] = x from HXE.out] at m0 m1 m2 m3 m4
                  obtain rfl : ad = ad2 := by injection hA2
                  clear hA2
                  go_wp2
                  have cA := calls_qb (w := w2) (fun w' _ => same_any x v w')
                  have qx0_ := cell_regrown x0_
                  have qx1_ := cell_regrown x1_
                  have qx2_ := cell_regrown x2_
                  have qx3_ := cell_regrown x3_
                  have qx4_ := cell_regrown x4_
                  have qm0 := cell_regrown m0
                  have qm1 := cell_regrown m1
                  have qm2 := cell_regrown m2
                  have qm3 := cell_regrown m3
                  have qm4 := cell_regrown m4
                  refine wp_region_qb (by kernel_rfl) (by kernel_rfl) ?_
                  repeat (first | go_big_quiet_step (exact cA _ _) | quiet_step (exact cA _ _))
                  refine wpQuiet_nil ?_
                  intro w3 hb
                  clear cA qx0_ qx1_ qx2_ qx3_ qx4_ qm0 qm1 qm2 qm3 qm4
                  have TRD_ := Lib.hid (HRD.out.low hb)
                  have TX_ := Lib.hid (HX.out.low hb)
                  have TB_ := Lib.hid (HB.out.trans (hb.mono HB.out.size))
                  clear x0_ x1_ x2_ x3_ x4_ ltX_ m0 m1 m2 m3 m4
                  clear HB HRD HX
                  have HRD := Lib.hid TRD_.out
                  have HX := Lib.hid TX_.out
                  have HB := Lib.hid TB_.out
                  clear TB_ TRD_ TX_
                  clear hb
                  have x0_ : w3.cell? ⟨bx, 0, none⟩ = some (.int .i64 v.t) := HX.out.cell 0
                  have x1_ : w3.cell? ⟨bx, 1, none⟩ = some (.int .i64 v.e) := HX.out.cell 1
                  have x2_ : w3.cell? ⟨bx, 2, none⟩ = some (.int .u64 v.b) := HX.out.cell 2
                  have x3_ : w3.cell? ⟨bx, 3, none⟩ = some (.int .u64 v.d) := HX.out.cell 3
                  have x4_ : w3.cell? ⟨bx, 4, none⟩ = some (.int .u64 v.s) := HX.out.cell 4
                  have ltX_ := HX.out.lt
                  go_wp2
                  go_ret
                  exact ⟨ret_int HQ.out.symm, HB.out⟩
                · skip
                  by_cases hb3 : Hi.same x v = true
                  · skip
                    have hd1 : decide (v.t < x.t) = false := decide_eq_false hb1
                    have hd2 : decide (v.e < x.e) = false := decide_eq_false hb2
                    have HSM := Lib.hid hb3
                    clear hb3
                    have HQ := Lib.hid (Hi.chk_hit hlt (show Hi.badAt l k = true by unfold Hi.badAt; rw [HV.out, HXV.out, ← HP.out, HGV.out, decide_eq_true hkp]; unfold Hi.badP; rw [HSM.out]; simp) HG.out)
                    have HRD := Lib.hid (HR.out.low HB.out)
                    go_wp2_with fail
                    obtain ⟨bx, hbk_⟩ : ∃ b, wr.heap.size = b := ⟨_, rfl⟩
                    have NX_ := Lib.hid (Blk.new' wr 30 #[.int .i64 v.t, .int .i64 v.e, .int .u64 v.b, .int .u64 v.d, .int .u64 v.s] bx hbk_)
                    have TRD_ := Lib.hid ((HRD.out.low ((Below.refl _ _).alloc (Nat.le_refl _) (.cells #[.int .i64 v.t, .int .i64 v.e, .int .u64 v.b, .int .u64 v.d, .int .u64 v.s] 30))))
                    have TB_ := Lib.hid (HB.out.alloc HB.out.size (.cells #[.int .i64 v.t, .int .i64 v.e, .int .u64 v.b, .int .u64 v.d, .int .u64 v.s] 30))
                    clear HB HRD
                    have HRD := Lib.hid TRD_.out
                    have HB := Lib.hid TB_.out
                    clear TB_ TRD_
                    try rw [hbk_]
                    obtain ⟨w1, hw_⟩ : ∃ w', wr.alloc (.cells #[.int .i64 v.t, .int .i64 v.e, .int .u64 v.b, .int .u64 v.d, .int .u64 v.s] 30) = w' := ⟨_, rfl⟩
                    rw [hw_] at NX_ HB HRD ⊢
                    have HX := Lib.hid NX_.out
                    clear hw_ hbk_ NX_
                    have x0_ : w1.cell? ⟨bx, 0, none⟩ = some (.int .i64 v.t) := HX.out.cell 0
                    have x1_ : w1.cell? ⟨bx, 1, none⟩ = some (.int .i64 v.e) := HX.out.cell 1
                    have x2_ : w1.cell? ⟨bx, 2, none⟩ = some (.int .u64 v.b) := HX.out.cell 2
                    have x3_ : w1.cell? ⟨bx, 3, none⟩ = some (.int .u64 v.d) := HX.out.cell 3
                    have x4_ : w1.cell? ⟨bx, 4, none⟩ = some (.int .u64 v.s) := HX.out.cell 4
                    have ltX_ := HX.out.lt
                    clear k0 k1 k2 k3 k4
                    have qx0_ := cell_regrown x0_
                    have qx1_ := cell_regrown x1_
                    have qx2_ := cell_regrown x2_
                    have qx3_ := cell_regrown x3_
                    have qx4_ := cell_regrown x4_
                    have cT := calls_qb0 (w := w1) (fun w' _ => hrg_any v.t w')
                    have cE := calls_qb0 (w := w1) (fun w' _ => hrg_any v.e w')
                    have cS := calls_qb (w := w1) (fun w' _ => seal_any p v w')
                    refine wp_region_qb (by kernel_rfl) (by kernel_rfl) ?_
                    repeat (first | go_big_quiet_step (first | exact cT _ _ | exact cE _ _ | exact cS _ _) | quiet_step (first | exact cT _ _ | exact cE _ _ | exact cS _ _))
                    refine wpQuiet_nil ?_
                    intro w2 hb
                    clear qx0_ qx1_ qx2_ qx3_ qx4_ cT cE cS
                    have TRD_ := Lib.hid (HRD.out.low hb)
                    have TX_ := Lib.hid (HX.out.low hb)
                    have TB_ := Lib.hid (HB.out.trans (hb.mono HB.out.size))
                    clear x0_ x1_ x2_ x3_ x4_ ltX_
                    clear HB HRD HX
                    have HRD := Lib.hid TRD_.out
                    have HX := Lib.hid TX_.out
                    have HB := Lib.hid TB_.out
                    clear TB_ TRD_ TX_
                    clear hb
                    have x0_ : w2.cell? ⟨bx, 0, none⟩ = some (.int .i64 v.t) := HX.out.cell 0
                    have x1_ : w2.cell? ⟨bx, 1, none⟩ = some (.int .i64 v.e) := HX.out.cell 1
                    have x2_ : w2.cell? ⟨bx, 2, none⟩ = some (.int .u64 v.b) := HX.out.cell 2
                    have x3_ : w2.cell? ⟨bx, 3, none⟩ = some (.int .u64 v.d) := HX.out.cell 3
                    have x4_ : w2.cell? ⟨bx, 4, none⟩ = some (.int .u64 v.s) := HX.out.cell 4
                    have ltX_ := HX.out.lt
                    obtain ⟨ad2, bk2, of2, hA2, hadd2, m0, m1, m2, m3, m4⟩ := rd_vals HRD.out m hml
                    rw [show l[m] = x from HXE.out] at m0 m1 m2 m3 m4
                    obtain rfl : ad = ad2 := by injection hA2
                    clear hA2
                    go_wp2
                    have cA := calls_qb (P := Try.prog) (f := 29) (args := #[.agg #[.int .i64 x.t, .int .i64 x.e, .int .u64 x.b, .int .u64 x.d, .int .u64 x.s], .agg #[.int .i64 v.t, .int .i64 v.e, .int .u64 v.b, .int .u64 v.d, .int .u64 v.s]]) (w := w2) (v := .bool true) (fun w' _ => (same_any x v w').mono (by rw [HSM.out]; exact fun _ _ h => h))
                    have qx0_ := cell_regrown x0_
                    have qx1_ := cell_regrown x1_
                    have qx2_ := cell_regrown x2_
                    have qx3_ := cell_regrown x3_
                    have qx4_ := cell_regrown x4_
                    have qm0 := cell_regrown m0
                    have qm1 := cell_regrown m1
                    have qm2 := cell_regrown m2
                    have qm3 := cell_regrown m3
                    have qm4 := cell_regrown m4
                    refine wp_region_qb (by kernel_rfl) (by kernel_rfl) ?_
                    repeat (first | go_big_quiet_step (exact cA _ _) | quiet_step (exact cA _ _))
                    refine wpQuiet_nil ?_
                    intro w3 hb
                    clear cA qx0_ qx1_ qx2_ qx3_ qx4_ qm0 qm1 qm2 qm3 qm4
                    have TRD_ := Lib.hid (HRD.out.low hb)
                    have TX_ := Lib.hid (HX.out.low hb)
                    have TB_ := Lib.hid (HB.out.trans (hb.mono HB.out.size))
                    clear x0_ x1_ x2_ x3_ x4_ ltX_ m0 m1 m2 m3 m4
                    clear HB HRD HX
                    have HRD := Lib.hid TRD_.out
                    have HX := Lib.hid TX_.out
                    have HB := Lib.hid TB_.out
                    clear TB_ TRD_ TX_
                    clear hb
                    have x0_ : w3.cell? ⟨bx, 0, none⟩ = some (.int .i64 v.t) := HX.out.cell 0
                    have x1_ : w3.cell? ⟨bx, 1, none⟩ = some (.int .i64 v.e) := HX.out.cell 1
                    have x2_ : w3.cell? ⟨bx, 2, none⟩ = some (.int .u64 v.b) := HX.out.cell 2
                    have x3_ : w3.cell? ⟨bx, 3, none⟩ = some (.int .u64 v.d) := HX.out.cell 3
                    have x4_ : w3.cell? ⟨bx, 4, none⟩ = some (.int .u64 v.s) := HX.out.cell 4
                    have ltX_ := HX.out.lt
                    go_wp2
                    go_ret
                    exact ⟨ret_int HQ.out.symm, HB.out⟩
                  · skip
                    have hd1 : decide (v.t < x.t) = false := decide_eq_false hb1
                    have hd2 : decide (v.e < x.e) = false := decide_eq_false hb2
                    have hno : ¬ (v.t < x.t ∨ v.e < x.e) := fun h => h.elim hb1 hb2
                    have HNO := Lib.hid hno
                    have hb3 : Hi.same x v = false := by simpa using hb3
                    have HSM := Lib.hid hb3
                    clear hb3 hno
                    have HRD := Lib.hid (HR.out.low HB.out)
                    go_wp2_with fail
                    obtain ⟨bx, hbk_⟩ : ∃ b, wr.heap.size = b := ⟨_, rfl⟩
                    have NX_ := Lib.hid (Blk.new' wr 30 #[.int .i64 v.t, .int .i64 v.e, .int .u64 v.b, .int .u64 v.d, .int .u64 v.s] bx hbk_)
                    have TRD_ := Lib.hid ((HRD.out.low ((Below.refl _ _).alloc (Nat.le_refl _) (.cells #[.int .i64 v.t, .int .i64 v.e, .int .u64 v.b, .int .u64 v.d, .int .u64 v.s] 30))))
                    have TB_ := Lib.hid (HB.out.alloc HB.out.size (.cells #[.int .i64 v.t, .int .i64 v.e, .int .u64 v.b, .int .u64 v.d, .int .u64 v.s] 30))
                    clear HB HRD
                    have HRD := Lib.hid TRD_.out
                    have HB := Lib.hid TB_.out
                    clear TB_ TRD_
                    try rw [hbk_]
                    obtain ⟨w1, hw_⟩ : ∃ w', wr.alloc (.cells #[.int .i64 v.t, .int .i64 v.e, .int .u64 v.b, .int .u64 v.d, .int .u64 v.s] 30) = w' := ⟨_, rfl⟩
                    rw [hw_] at NX_ HB HRD ⊢
                    have HX := Lib.hid NX_.out
                    clear hw_ hbk_ NX_
                    have x0_ : w1.cell? ⟨bx, 0, none⟩ = some (.int .i64 v.t) := HX.out.cell 0
                    have x1_ : w1.cell? ⟨bx, 1, none⟩ = some (.int .i64 v.e) := HX.out.cell 1
                    have x2_ : w1.cell? ⟨bx, 2, none⟩ = some (.int .u64 v.b) := HX.out.cell 2
                    have x3_ : w1.cell? ⟨bx, 3, none⟩ = some (.int .u64 v.d) := HX.out.cell 3
                    have x4_ : w1.cell? ⟨bx, 4, none⟩ = some (.int .u64 v.s) := HX.out.cell 4
                    have ltX_ := HX.out.lt
                    clear k0 k1 k2 k3 k4
                    have qx0_ := cell_regrown x0_
                    have qx1_ := cell_regrown x1_
                    have qx2_ := cell_regrown x2_
                    have qx3_ := cell_regrown x3_
                    have qx4_ := cell_regrown x4_
                    have cT := calls_qb0 (w := w1) (fun w' _ => hrg_any v.t w')
                    have cE := calls_qb0 (w := w1) (fun w' _ => hrg_any v.e w')
                    have cS := calls_qb (w := w1) (fun w' _ => seal_any p v w')
                    refine wp_region_qb (by kernel_rfl) (by kernel_rfl) ?_
                    repeat (first | go_big_quiet_step (first | exact cT _ _ | exact cE _ _ | exact cS _ _) | quiet_step (first | exact cT _ _ | exact cE _ _ | exact cS _ _))
                    refine wpQuiet_nil ?_
                    intro w2 hb
                    clear qx0_ qx1_ qx2_ qx3_ qx4_ cT cE cS
                    have TRD_ := Lib.hid (HRD.out.low hb)
                    have TX_ := Lib.hid (HX.out.low hb)
                    have TB_ := Lib.hid (HB.out.trans (hb.mono HB.out.size))
                    clear x0_ x1_ x2_ x3_ x4_ ltX_
                    clear HB HRD HX
                    have HRD := Lib.hid TRD_.out
                    have HX := Lib.hid TX_.out
                    have HB := Lib.hid TB_.out
                    clear TB_ TRD_ TX_
                    clear hb
                    have x0_ : w2.cell? ⟨bx, 0, none⟩ = some (.int .i64 v.t) := HX.out.cell 0
                    have x1_ : w2.cell? ⟨bx, 1, none⟩ = some (.int .i64 v.e) := HX.out.cell 1
                    have x2_ : w2.cell? ⟨bx, 2, none⟩ = some (.int .u64 v.b) := HX.out.cell 2
                    have x3_ : w2.cell? ⟨bx, 3, none⟩ = some (.int .u64 v.d) := HX.out.cell 3
                    have x4_ : w2.cell? ⟨bx, 4, none⟩ = some (.int .u64 v.s) := HX.out.cell 4
                    have ltX_ := HX.out.lt
                    obtain ⟨ad2, bk2, of2, hA2, hadd2, m0, m1, m2, m3, m4⟩ := rd_vals HRD.out m hml
                    rw [show l[m] = x from HXE.out] at m0 m1 m2 m3 m4
                    obtain rfl : ad = ad2 := by injection hA2
                    clear hA2
                    go_wp2
                    have cA := calls_qb (P := Try.prog) (f := 29) (args := #[.agg #[.int .i64 x.t, .int .i64 x.e, .int .u64 x.b, .int .u64 x.d, .int .u64 x.s], .agg #[.int .i64 v.t, .int .i64 v.e, .int .u64 v.b, .int .u64 v.d, .int .u64 v.s]]) (w := w2) (v := .bool false) (fun w' _ => (same_any x v w').mono (by rw [HSM.out]; exact fun _ _ h => h))
                    have qx0_ := cell_regrown x0_
                    have qx1_ := cell_regrown x1_
                    have qx2_ := cell_regrown x2_
                    have qx3_ := cell_regrown x3_
                    have qx4_ := cell_regrown x4_
                    have qm0 := cell_regrown m0
                    have qm1 := cell_regrown m1
                    have qm2 := cell_regrown m2
                    have qm3 := cell_regrown m3
                    have qm4 := cell_regrown m4
                    refine wp_region_qb (by kernel_rfl) (by kernel_rfl) ?_
                    repeat (first | go_big_quiet_step (exact cA _ _) | quiet_step (exact cA _ _))
                    refine wpQuiet_nil ?_
                    intro w3 hb
                    clear cA qx0_ qx1_ qx2_ qx3_ qx4_ qm0 qm1 qm2 qm3 qm4
                    have TRD_ := Lib.hid (HRD.out.low hb)
                    have TX_ := Lib.hid (HX.out.low hb)
                    have TB_ := Lib.hid (HB.out.trans (hb.mono HB.out.size))
                    clear x0_ x1_ x2_ x3_ x4_ ltX_ m0 m1 m2 m3 m4
                    clear HB HRD HX
                    have HRD := Lib.hid TRD_.out
                    have HX := Lib.hid TX_.out
                    have HB := Lib.hid TB_.out
                    clear TB_ TRD_ TX_
                    clear hb
                    have x0_ : w3.cell? ⟨bx, 0, none⟩ = some (.int .i64 v.t) := HX.out.cell 0
                    have x1_ : w3.cell? ⟨bx, 1, none⟩ = some (.int .i64 v.e) := HX.out.cell 1
                    have x2_ : w3.cell? ⟨bx, 2, none⟩ = some (.int .u64 v.b) := HX.out.cell 2
                    have x3_ : w3.cell? ⟨bx, 3, none⟩ = some (.int .u64 v.d) := HX.out.cell 3
                    have x4_ : w3.cell? ⟨bx, 4, none⟩ = some (.int .u64 v.s) := HX.out.cell 4
                    have ltX_ := HX.out.lt
                    go_wp2
                    all_goals
                      go_roundw
                      case rel => exact ⟨k + 1, v.s, by omega, by go_num, rfl, ⟨by show v.s = (l.getD k Hi.zero).s; rw [HV.out], fun j hj => by
                        rcases Nat.lt_or_ge j k with h | h
                        · exact HG.out j h
                        · obtain rfl : j = k := by omega
                          unfold Hi.badAt Hi.badP; rw [HV.out, HXV.out, ← HP.out, HGV.out, HSM.out, decide_eq_false HNO.out, decide_eq_true hkp]; rfl, HB.out⟩⟩
                      case measure => simp [intOf]; omega
            · have hkz2 : ¬ (0 : Int) < (k : Int) := by omega
              have HRD := Lib.hid (HR.out.low HB.out)
              go_wp2_with fail
              obtain ⟨bx, hbk_⟩ : ∃ b, wr.heap.size = b := ⟨_, rfl⟩
              have NX_ := Lib.hid (Blk.new' wr 30 #[.int .i64 v.t, .int .i64 v.e, .int .u64 v.b, .int .u64 v.d, .int .u64 v.s] bx hbk_)
              have TRD_ := Lib.hid ((HRD.out.low ((Below.refl _ _).alloc (Nat.le_refl _) (.cells #[.int .i64 v.t, .int .i64 v.e, .int .u64 v.b, .int .u64 v.d, .int .u64 v.s] 30))))
              have TB_ := Lib.hid (HB.out.alloc HB.out.size (.cells #[.int .i64 v.t, .int .i64 v.e, .int .u64 v.b, .int .u64 v.d, .int .u64 v.s] 30))
              clear HB HRD
              have HRD := Lib.hid TRD_.out
              have HB := Lib.hid TB_.out
              clear TB_ TRD_
              try rw [hbk_]
              obtain ⟨w1, hw_⟩ : ∃ w', wr.alloc (.cells #[.int .i64 v.t, .int .i64 v.e, .int .u64 v.b, .int .u64 v.d, .int .u64 v.s] 30) = w' := ⟨_, rfl⟩
              rw [hw_] at NX_ HB HRD ⊢
              have HX := Lib.hid NX_.out
              clear hw_ hbk_ NX_
              have x0_ : w1.cell? ⟨bx, 0, none⟩ = some (.int .i64 v.t) := HX.out.cell 0
              have x1_ : w1.cell? ⟨bx, 1, none⟩ = some (.int .i64 v.e) := HX.out.cell 1
              have x2_ : w1.cell? ⟨bx, 2, none⟩ = some (.int .u64 v.b) := HX.out.cell 2
              have x3_ : w1.cell? ⟨bx, 3, none⟩ = some (.int .u64 v.d) := HX.out.cell 3
              have x4_ : w1.cell? ⟨bx, 4, none⟩ = some (.int .u64 v.s) := HX.out.cell 4
              have ltX_ := HX.out.lt
              clear k0 k1 k2 k3 k4
              have qx0_ := cell_regrown x0_
              have qx1_ := cell_regrown x1_
              have qx2_ := cell_regrown x2_
              have qx3_ := cell_regrown x3_
              have qx4_ := cell_regrown x4_
              have cT := calls_qb0 (w := w1) (fun w' _ => hrg_any v.t w')
              have cE := calls_qb0 (w := w1) (fun w' _ => hrg_any v.e w')
              have cS := calls_qb (w := w1) (fun w' _ => seal_any p v w')
              refine wp_region_qb (by kernel_rfl) (by kernel_rfl) ?_
              repeat (first | go_big_quiet_step (first | exact cT _ _ | exact cE _ _ | exact cS _ _) | quiet_step (first | exact cT _ _ | exact cE _ _ | exact cS _ _))
              refine wpQuiet_nil ?_
              intro w2 hb
              clear qx0_ qx1_ qx2_ qx3_ qx4_ cT cE cS
              have TRD_ := Lib.hid (HRD.out.low hb)
              have TX_ := Lib.hid (HX.out.low hb)
              have TB_ := Lib.hid (HB.out.trans (hb.mono HB.out.size))
              clear x0_ x1_ x2_ x3_ x4_ ltX_
              clear HB HRD HX
              have HRD := Lib.hid TRD_.out
              have HX := Lib.hid TX_.out
              have HB := Lib.hid TB_.out
              clear TB_ TRD_ TX_
              clear hb
              have x0_ : w2.cell? ⟨bx, 0, none⟩ = some (.int .i64 v.t) := HX.out.cell 0
              have x1_ : w2.cell? ⟨bx, 1, none⟩ = some (.int .i64 v.e) := HX.out.cell 1
              have x2_ : w2.cell? ⟨bx, 2, none⟩ = some (.int .u64 v.b) := HX.out.cell 2
              have x3_ : w2.cell? ⟨bx, 3, none⟩ = some (.int .u64 v.d) := HX.out.cell 3
              have x4_ : w2.cell? ⟨bx, 4, none⟩ = some (.int .u64 v.s) := HX.out.cell 4
              have ltX_ := HX.out.lt
              go_wp2
              have qx0_ := cell_regrown x0_
              have qx1_ := cell_regrown x1_
              have qx2_ := cell_regrown x2_
              have qx3_ := cell_regrown x3_
              have qx4_ := cell_regrown x4_
              refine wp_region_qb (by kernel_rfl) (by kernel_rfl) ?_
              repeat (first | go_big_quiet_step (fail) | quiet_step (fail))
              refine wpQuiet_nil ?_
              intro w3 hb
              clear qx0_ qx1_ qx2_ qx3_ qx4_
              have TRD_ := Lib.hid (HRD.out.low hb)
              have TX_ := Lib.hid (HX.out.low hb)
              have TB_ := Lib.hid (HB.out.trans (hb.mono HB.out.size))
              clear x0_ x1_ x2_ x3_ x4_ ltX_
              clear HB HRD HX
              have HRD := Lib.hid TRD_.out
              have HX := Lib.hid TX_.out
              have HB := Lib.hid TB_.out
              clear TB_ TRD_ TX_
              clear hb
              have x0_ : w3.cell? ⟨bx, 0, none⟩ = some (.int .i64 v.t) := HX.out.cell 0
              have x1_ : w3.cell? ⟨bx, 1, none⟩ = some (.int .i64 v.e) := HX.out.cell 1
              have x2_ : w3.cell? ⟨bx, 2, none⟩ = some (.int .u64 v.b) := HX.out.cell 2
              have x3_ : w3.cell? ⟨bx, 3, none⟩ = some (.int .u64 v.d) := HX.out.cell 3
              have x4_ : w3.cell? ⟨bx, 4, none⟩ = some (.int .u64 v.s) := HX.out.cell 4
              have ltX_ := HX.out.lt
              go_wp2
              go_roundw
              case rel => exact ⟨k + 1, v.s, by omega, by go_num, rfl, ⟨by show v.s = (l.getD k Hi.zero).s; rw [HV.out], fun j hj => by
                rcases Nat.lt_or_ge j k with h | h
                · exact HG.out j h
                · obtain rfl : j = k := by omega
                  unfold Hi.badAt; rw [HV.out, ← HP.out, HGV.out, decide_eq_false hkz]; rfl, HB.out⟩⟩
              case measure => simp [intOf]; omega
    · have HQ := Lib.hid (Hi.chk_end (fun j hj => HG.out j (by omega)))
      go_wp2
      go_ret
      exact ⟨ret_int HQ.out.symm, HB.out⟩

end Go.Proofs.Ytgmhcfhmpjpomaa
