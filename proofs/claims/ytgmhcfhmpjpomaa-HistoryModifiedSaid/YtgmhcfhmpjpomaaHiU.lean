/- Layer 49: four of the laws. -/
import Derived.Test.YtgmhcfhmpjpomaaT49
import Derived.Test.YtgmhcfhmpjpomaaHiS
import Derived.Test.YtgmhcfhmpjpomaaHiE
namespace Go.Proofs.Ytgmhcfhmpjpomaa
set_option linter.unusedSimpArgs false
set_option linter.unusedVariables false
open Go.RowKit

set_option maxRecDepth 100000 in
theorem append_walk (w : World) (A : Option Addr) (l : List Hi.V) (c : Nat) (h : Rd w A (Hi.vals l)) :
    Calls Try.prog 3 #[.slice A l.length c] w fun e w' => e = .returned (.bool true) ∧ Below w.heap.size w w' := by
  by_cases hl : l.length ≤ 60
  · skip
    refine Fw.calls Try.func3 rfl Try.ntmps3 rfl ?_
    have HB := Below.refl (w.heap.size) w
    refine Fw.seq fun _ hK1 => ?_
    refine Fw.region ?_
    refine Fw.s (Fw.val_assign rfl) rfl ?_
    refine Fw.nil ?_
    refine hK1 _ _ ?_
    refine Fw.seq fun _ hK2 => ?_
    refine Fw.region ?_
    refine Fw.s (Fw.val_move rfl) rfl ?_
    refine Fw.call cf9 rfl rfl (run_any w A l c h hl) ?_
    rintro e_ w1 ⟨AM, cM, gM, rfl, HC, HM, hb⟩
    refine ⟨_, rfl, ?_⟩
    replace HB := HB.trans (hb.mono HB.size)
    clear hb
    refine Fw.s (Fw.val_move rfl) rfl ?_
    refine Fw.s (Fw.val_extract rfl rfl) rfl ?_
    refine Fw.s (Fw.val_extract rfl rfl) rfl ?_
    refine Fw.s (Fw.val_extract rfl rfl) rfl ?_
    refine Fw.s (Fw.val_assign rfl) rfl ?_
    refine Fw.s (Fw.val_assign rfl) rfl ?_
    refine Fw.s (Fw.val_assign rfl) rfl ?_
    refine Fw.nil ?_
    refine hK2 _ _ (Fw.FC.sub (f' := [(5, _), (3, _)]) (.cons rfl (.cons rfl .nil)) ?_)
    refine Fw.seq fun _ hK3 => ?_
    refine Fw.region ?_
    refine Fw.call cf10 rfl rfl (awake_any _) ?_
    rintro e_ w2 ⟨rfl, hb⟩
    refine ⟨_, rfl, ?_⟩
    replace HC := HC.low hb
    replace HM := HM.low hb
    replace HB := HB.trans (hb.mono HB.size)
    clear hb
    refine Fw.s (Fw.val_move rfl) rfl ?_
    refine Fw.gT (d := 13) rfl rfl ?_
    refine Fw.s (Fw.val_move rfl) rfl ?_
    refine Fw.gT (d := 13) rfl rfl ?_
    refine Fw.s (Fw.val_bin rfl rfl (Fw.b_nilP Try.underlying23)) rfl ?_
    refine Fw.gT (d := 13) rfl rfl ?_
    refine Fw.s (Fw.val_move rfl) rfl ?_
    refine Fw.gT (d := 16) rfl rfl ?_
    refine Fw.s (Fw.val_move rfl) rfl ?_
    refine Fw.gT (d := 13) rfl rfl ?_
    refine Fw.s (Fw.val_pickF rfl rfl) rfl ?_
    refine Fw.s (Fw.val_pickT rfl rfl) rfl ?_
    refine Fw.s (Fw.val_assign rfl) rfl ?_
    refine Fw.nil ?_
    refine hK3 _ _ (Fw.FC.sub (f' := [(2, _)]) (.cons rfl .nil) ?_)
    refine Fw.ret ?_
    refine Fw.ret_ [.tmp 2] [_] Try.results3 (.tmp rfl .nil) ?_
    exact ⟨rfl, HB⟩
  · skip
    refine Fw.calls Try.func3 rfl Try.ntmps3 rfl ?_
    have HB := Below.refl (w.heap.size) w
    refine Fw.seq fun _ hK1 => ?_
    refine Fw.region ?_
    refine Fw.s (Fw.val_assign rfl) rfl ?_
    refine Fw.nil ?_
    refine hK1 _ _ ?_
    refine Fw.seq fun _ hK2 => ?_
    refine Fw.region ?_
    refine Fw.s (Fw.val_move rfl) rfl ?_
    refine Fw.call cf9 rfl rfl (run_big w A l c (by omega)) ?_
    rintro e_ w1 ⟨rfl, hb⟩
    refine ⟨_, rfl, ?_⟩
    replace HB := HB.trans (hb.mono HB.size)
    clear hb
    refine Fw.s (Fw.val_move rfl) rfl ?_
    refine Fw.s (Fw.val_extract rfl rfl) rfl ?_
    refine Fw.s (Fw.val_extract rfl rfl) rfl ?_
    refine Fw.s (Fw.val_extract rfl rfl) rfl ?_
    refine Fw.s (Fw.val_assign rfl) rfl ?_
    refine Fw.s (Fw.val_assign rfl) rfl ?_
    refine Fw.s (Fw.val_assign rfl) rfl ?_
    refine Fw.nil ?_
    refine hK2 _ _ (Fw.FC.sub (f' := [(5, _), (3, _)]) (.cons rfl (.cons rfl .nil)) ?_)
    refine Fw.seq fun _ hK3 => ?_
    refine Fw.region ?_
    refine Fw.call cf10 rfl rfl (awake_any _) ?_
    rintro e_ w2 ⟨rfl, hb⟩
    refine ⟨_, rfl, ?_⟩
    replace HB := HB.trans (hb.mono HB.size)
    clear hb
    refine Fw.s (Fw.val_move rfl) rfl ?_
    refine Fw.gT (d := 13) rfl rfl ?_
    refine Fw.s (Fw.val_move rfl) rfl ?_
    refine Fw.gT (d := 13) rfl rfl ?_
    refine Fw.s (Fw.val_bin rfl rfl (Fw.b_nilP Try.underlying23)) rfl ?_
    refine Fw.gT (d := 13) rfl rfl ?_
    refine Fw.s (Fw.val_move rfl) rfl ?_
    refine Fw.gF (d := 16) rfl rfl rfl rfl ?_
    refine Fw.gT (d := 13) rfl rfl ?_
    refine Fw.s (Fw.val_pickT rfl rfl) rfl ?_
    refine Fw.s (Fw.val_pickT rfl rfl) rfl ?_
    refine Fw.s (Fw.val_assign rfl) rfl ?_
    refine Fw.nil ?_
    refine hK3 _ _ (Fw.FC.sub (f' := [(2, _)]) (.cons rfl .nil) ?_)
    refine Fw.ret ?_
    refine Fw.ret_ [.tmp 2] [_] Try.results3 (.tmp rfl .nil) ?_
    exact ⟨rfl, HB⟩

set_option maxRecDepth 100000 in
theorem at_walk (w : World) (A : Option Addr) (l : List Hi.V) (c : Nat) (h : Rd w A (Hi.vals l)) (tick : Int) :
    Calls Try.prog 4 #[.slice A l.length c, .int .i64 tick] w fun e w' => e = .returned (.bool true) ∧ Below w.heap.size w w' := by
  by_cases hl : l.length ≤ 60
  · skip
    refine Fw.calls Try.func4 rfl Try.ntmps4 rfl ?_
    have HB := Below.refl (w.heap.size) w
    refine Fw.seq fun _ hK1 => ?_
    refine Fw.region ?_
    refine Fw.s (Fw.val_assign rfl) rfl ?_
    refine Fw.nil ?_
    refine hK1 _ _ ?_
    refine Fw.seq fun _ hK2 => ?_
    refine Fw.region ?_
    refine Fw.s (Fw.val_move rfl) rfl ?_
    refine Fw.call cf9 rfl rfl (run_any w A l c h hl) ?_
    rintro e_ w1 ⟨AM, cM, gM, rfl, HC, HM, hb⟩
    refine ⟨_, rfl, ?_⟩
    replace HB := HB.trans (hb.mono HB.size)
    clear hb
    refine Fw.s (Fw.val_move rfl) rfl ?_
    refine Fw.s (Fw.val_extract rfl rfl) rfl ?_
    refine Fw.s (Fw.val_extract rfl rfl) rfl ?_
    refine Fw.s (Fw.val_extract rfl rfl) rfl ?_
    refine Fw.s (Fw.val_assign rfl) rfl ?_
    refine Fw.s (Fw.val_assign rfl) rfl ?_
    refine Fw.s (Fw.val_assign rfl) rfl ?_
    refine Fw.nil ?_
    refine hK2 _ _ (Fw.FC.sub (f' := [(6, _), (5, _), (1, _)]) (.cons rfl (.cons rfl (.cons rfl .nil))) ?_)
    refine Fw.seq fun _ hK3 => ?_
    refine Fw.seq fun _ hK4 => ?_
    refine Fw.region ?_
    refine Fw.call cf10 rfl rfl (awake_any _) ?_
    rintro e_ w2 ⟨rfl, hb⟩
    refine ⟨_, rfl, ?_⟩
    replace HC := HC.low hb
    replace HM := HM.low hb
    replace HB := HB.trans (hb.mono HB.size)
    clear hb
    refine Fw.s (Fw.val_not rfl) rfl ?_
    refine Fw.s (Fw.val_move rfl) rfl ?_
    refine Fw.gT (d := 20) rfl rfl ?_
    refine Fw.s (Fw.val_move rfl) rfl ?_
    refine Fw.gT (d := 20) rfl rfl ?_
    refine Fw.s (Fw.val_bin rfl rfl (Fw.b_nilP Try.underlying23)) rfl ?_
    refine Fw.s (Fw.val_pickF rfl rfl) rfl ?_
    refine Fw.nil ?_
    refine hK4 _ _ ?_
    refine Fw.condF rfl ?_
    refine Fw.skip ?_
    refine hK3 _ _ ?_
    refine Fw.seq fun _ hK5 => ?_
    have hq := Hi.runL_len l
    refine Fw.region ?_
    refine Fw.s (Fw.val_move rfl) rfl ?_
    refine Fw.s (Fw.val_move rfl) rfl ?_
    refine Fw.call cf11 rfl rfl (at_any _ w.heap.size w.heap.size gM (Hi.runL l) tick HC (by omega)) ?_
    rintro e_ w3 ⟨rfl, hb⟩
    refine ⟨_, rfl, ?_⟩
    replace HC := HC.low hb
    replace HM := HM.low hb
    replace HB := HB.trans (hb.mono HB.size)
    clear hb
    refine Fw.s (Fw.val_move rfl) rfl ?_
    refine Fw.s (Fw.val_extract rfl rfl) rfl ?_
    refine Fw.s (Fw.val_extract rfl rfl) rfl ?_
    refine Fw.alloc ze30 rfl ?_
    intro w4 gX egX HX hb
    have fr_HC_gX := HC.fresh egX
    have fr_HM_gX := Fw.RdT.fresh HM egX
    have lgX : w.heap.size ≤ gX := by have := HB.size; omega
    replace HC := HC.low hb
    replace HM := HM.low hb
    replace HB := HB.trans (hb.mono HB.size)
    clear hb
    clear egX
    refine Fw.storeW sz30 rfl rfl HX rfl rfl (by exact Fw.oneCells rfl) ?_
    intro w5 N_ hc
    replace HC := HC.chg hc fr_HC_gX.1 fr_HC_gX.2
    replace HM := HM.chg hc fr_HM_gX
    replace HB := HB.trans (hc.below (B := w.heap.size) (fun k e => by omega) HB.size)
    clear hc
    clear HX
    have HX := N_
    clear N_
    refine Fw.s (Fw.val_assign rfl) rfl ?_
    refine Fw.nil ?_
    refine hK5 _ _ (Fw.FC.sub (f' := [(9, _), (8, _), (6, _), (1, _)]) (.cons rfl (.cons rfl (.cons rfl (.cons rfl .nil)))) ?_)
    refine Fw.seq fun _ hK6 => ?_
    refine Fw.region ?_
    refine Fw.s (Fw.val_move rfl) rfl ?_
    refine Fw.s (Fw.val_move rfl) rfl ?_
    refine Fw.call cf12 rfl rfl (rat_any _ AM (Hi.runL l) cM tick HM.1 (by omega)) ?_
    rintro e_ w6 ⟨rfl, hb⟩
    refine ⟨_, rfl, ?_⟩
    replace HC := HC.low hb
    replace HM := HM.low hb
    replace HX := HX.low hb
    replace HB := HB.trans (hb.mono HB.size)
    clear hb
    refine Fw.s (Fw.val_move rfl) rfl ?_
    refine Fw.s (Fw.val_extract rfl rfl) rfl ?_
    refine Fw.s (Fw.val_extract rfl rfl) rfl ?_
    refine Fw.alloc ze33 rfl ?_
    intro w7 gY egY HY hb
    have fr_HC_gY := HC.fresh egY
    have fr_HM_gY := Fw.RdT.fresh HM egY
    have n_gX_gY : gX < gY := by have := HX.lt; omega
    have lgY : w.heap.size ≤ gY := by have := HB.size; omega
    replace HC := HC.low hb
    replace HM := HM.low hb
    replace HX := HX.low hb
    replace HB := HB.trans (hb.mono HB.size)
    clear hb
    clear egY
    refine Fw.storeW sz33 rfl rfl HY rfl rfl (by exact Fw.oneCells rfl) ?_
    intro w8 N_ hc
    replace HC := HC.chg hc fr_HC_gY.1 fr_HC_gY.2
    replace HM := HM.chg hc fr_HM_gY
    replace HX := HX.chg hc (by omega)
    replace HB := HB.trans (hc.below (B := w.heap.size) (fun k e => by omega) HB.size)
    clear hc
    clear HY
    have HY := N_
    clear N_
    refine Fw.s (Fw.val_assign rfl) rfl ?_
    refine Fw.nil ?_
    refine hK6 _ _ (Fw.FC.sub (f' := [(11, _), (10, _), (9, _), (8, _)]) (.cons rfl (.cons rfl (.cons rfl (.cons rfl .nil)))) ?_)
    refine Fw.seq fun _ hK7 => ?_
    refine Fw.regionH (by kernel_rfl) ?_
    have R_HX := HX
    have R_HY := HY
    have R_HB := HB
    intro w9 hb
    have HS := hb
    replace HC := HC.low hb
    replace HM := HM.low hb
    replace HX := HX.low hb
    replace HY := HY.low hb
    replace HB := HB.trans (hb.mono HB.size)
    clear hb
    refine Fw.hTake 0 rfl rfl (by kernel_rfl) (by kernel_rfl) (by kernel_rfl) (Fw.yV (Fw.val_move rfl)) rfl ?_
    refine Fw.hTake 1 rfl rfl (by kernel_rfl) (by kernel_rfl) (by kernel_rfl) (Fw.yV (Fw.val_move rfl)) rfl ?_
    refine Fw.hTake 2 rfl rfl (by kernel_rfl) (by kernel_rfl) (by kernel_rfl) (Fw.yV (Fw.Val.T (Fw.val_bin rfl rfl (Fw.b_eqlB Try.underlying4)) (by rfl))) rfl ?_
    refine Fw.hTake 3 rfl rfl (by kernel_rfl) (by kernel_rfl) (by kernel_rfl) (Fw.yV (Fw.val_move rfl)) rfl ?_
    refine Fw.hTake 4 rfl rfl (by kernel_rfl) (by kernel_rfl) (by kernel_rfl) (Fw.yT (e := 40) rfl rfl (Fw.hLdA ag30 rfl (Fw.rdBlk R_HX) rfl)) rfl ?_
    refine Fw.hTake 7 rfl rfl (by kernel_rfl) (by kernel_rfl) (by kernel_rfl) (Fw.yT (e := 40) rfl rfl (Fw.hLdA ag33 rfl (Fw.rdBlk R_HY) rfl)) rfl ?_
    refine Fw.hAll2 5 8 (by kernel_rfl) ?_ ?_
    · skip
      refine Fw.hOp 5 rfl ?_
      refine Fw.gT (d := 40) rfl rfl ?_
      refine Fw.buildSlice [_] sl38 rfl rfl (by exact Fw.allSz rfl) (by decide) rfl ?_
      intro w10 gS42 egS42 HS42 hb
      have fr_HC_gS42 := HC.fresh egS42
      have fr_HM_gS42 := Fw.RdT.fresh HM egS42
      have rgS42 : w8.heap.size ≤ gS42 := by have := HS.size; omega
      have n_gX_gS42 : gX < gS42 := by have := HX.lt; omega
      have n_gY_gS42 : gY < gS42 := by have := HY.lt; omega
      have lgS42 : w.heap.size ≤ gS42 := by have := HB.size; omega
      replace HC := HC.low hb
      replace HM := HM.low hb
      replace HX := HX.low hb
      replace HY := HY.low hb
      replace HS := HS.trans (hb.mono HS.size)
      replace HB := HB.trans (hb.mono HB.size)
      clear hb
      clear egS42
      refine Fw.hNext HS ?_
      refine Fw.hAll2 6 8 (by kernel_rfl) ?_ ?_
      · skip
        refine Fw.hOp 6 rfl ?_
        refine Fw.gT (d := 40) rfl rfl ?_
        refine Fw.call cf14 rfl rfl (back_any _ (some ⟨gS42, 0, none⟩) [Hi.atV tick (Hi.runL l)] 1 (show Rd _ _ (Hi.vals [_]) from Fw.rdBlk HS42) (by simp)) ?_
        rintro e_ w11 ⟨AB, cB, rfl, HOB, hb⟩
        refine ⟨_, rfl, ?_⟩
        replace HC := HC.low hb
        replace HM := HM.low hb
        replace HX := HX.low hb
        replace HY := HY.low hb
        replace HS := HS.trans (hb.mono HS.size)
        replace HS42 := HS42.low hb
        replace HB := HB.trans (hb.mono HB.size)
        clear hb
        refine Fw.hNext HS ?_
        refine Fw.hAll1 8 (by kernel_rfl) ?_
        refine Fw.hOp 8 rfl ?_
        refine Fw.gT (d := 40) rfl rfl ?_
        refine Fw.buildSlice [_] sl22 rfl rfl (by exact Fw.allSz rfl) (by decide) rfl ?_
        intro w12 gS45 egS45 HS45 hb
        have fr_HC_gS45 := HC.fresh egS45
        have fr_HM_gS45 := Fw.RdT.fresh HM egS45
        have fr_HOB_gS45 := own_fresh HOB egS45
        have rgS45 : w8.heap.size ≤ gS45 := by have := HS.size; omega
        have n_gX_gS45 : gX < gS45 := by have := HX.lt; omega
        have n_gY_gS45 : gY < gS45 := by have := HY.lt; omega
        have n_gS42_gS45 : gS42 < gS45 := by have := HS42.lt; omega
        have lgS45 : w.heap.size ≤ gS45 := by have := HB.size; omega
        replace HC := HC.low hb
        replace HM := HM.low hb
        replace HX := HX.low hb
        replace HY := HY.low hb
        replace HS := HS.trans (hb.mono HS.size)
        replace HS42 := HS42.low hb
        replace HOB := own_below HOB hb (Nat.le_refl _)
        replace HB := HB.trans (hb.mono HB.size)
        clear hb
        clear egS45
        refine Fw.hNext HS ?_
        refine Fw.hAll1 9 (by kernel_rfl) ?_
        refine Fw.hOp 9 rfl ?_
        refine Fw.gT (d := 40) rfl rfl ?_
        refine Fw.call cf13 rfl rfl (rsame_any _ AB [Hi.atV tick (Hi.runL l)] cB (some ⟨gS45, 0, none⟩) [Hi.atV tick (Hi.runL l)] 1 (Rd.of_own HOB) (show Rd _ _ (Hi.vals [_]) from Fw.rdBlk HS45) (by simp) (by simp)) ?_
        rintro e_ w13 ⟨rfl, hb⟩
        refine ⟨_, rfl, ?_⟩
        replace HC := HC.low hb
        replace HM := HM.low hb
        replace HX := HX.low hb
        replace HY := HY.low hb
        replace HS := HS.trans (hb.mono HS.size)
        replace HS42 := HS42.low hb
        replace HOB := own_below HOB hb (Nat.le_refl _)
        replace HS45 := HS45.low hb
        replace HB := HB.trans (hb.mono HB.size)
        clear hb
        refine Fw.bT (by rw [Hi.apart_same]; rfl) ?_
        refine Fw.hNext HS ?_
        refine Fw.hTake 10 rfl rfl (by kernel_rfl) (by kernel_rfl) (by kernel_rfl) (Fw.yV (Fw.val_pickT rfl rfl)) rfl ?_
        refine Fw.hTake 11 rfl rfl (by kernel_rfl) (by kernel_rfl) (by kernel_rfl) (Fw.yV (Fw.val_assign rfl)) rfl ?_
        refine Fw.hDone (by kernel_rfl) ?_
        refine hK7 _ _ (Fw.FC.sub (f' := [(4, _)]) (.cons rfl .nil) ?_)
        refine Fw.ret ?_
        refine Fw.ret_ [.tmp 4] [_] Try.results4 (.tmp rfl .nil) ?_
        exact ⟨rfl, HB⟩
      · skip
        refine Fw.hOp 8 rfl ?_
        refine Fw.gT (d := 40) rfl rfl ?_
        refine Fw.buildSlice [_] sl22 rfl rfl (by exact Fw.allSz rfl) (by decide) rfl ?_
        intro w14 gS45 egS45 HS45 hb
        have fr_HC_gS45 := HC.fresh egS45
        have fr_HM_gS45 := Fw.RdT.fresh HM egS45
        have rgS45 : w8.heap.size ≤ gS45 := by have := HS.size; omega
        have n_gX_gS45 : gX < gS45 := by have := HX.lt; omega
        have n_gY_gS45 : gY < gS45 := by have := HY.lt; omega
        have n_gS42_gS45 : gS42 < gS45 := by have := HS42.lt; omega
        have lgS45 : w.heap.size ≤ gS45 := by have := HB.size; omega
        replace HC := HC.low hb
        replace HM := HM.low hb
        replace HX := HX.low hb
        replace HY := HY.low hb
        replace HS := HS.trans (hb.mono HS.size)
        replace HS42 := HS42.low hb
        replace HB := HB.trans (hb.mono HB.size)
        clear hb
        clear egS45
        refine Fw.hNext HS ?_
        refine Fw.hAll1 6 (by kernel_rfl) ?_
        refine Fw.hOp 6 rfl ?_
        refine Fw.gT (d := 40) rfl rfl ?_
        refine Fw.call cf14 rfl rfl (back_any _ (some ⟨gS42, 0, none⟩) [Hi.atV tick (Hi.runL l)] 1 (show Rd _ _ (Hi.vals [_]) from Fw.rdBlk HS42) (by simp)) ?_
        rintro e_ w15 ⟨AB, cB, rfl, HOB, hb⟩
        refine ⟨_, rfl, ?_⟩
        replace HC := HC.low hb
        replace HM := HM.low hb
        replace HX := HX.low hb
        replace HY := HY.low hb
        replace HS := HS.trans (hb.mono HS.size)
        replace HS42 := HS42.low hb
        replace HS45 := HS45.low hb
        replace HB := HB.trans (hb.mono HB.size)
        clear hb
        refine Fw.hNext HS ?_
        refine Fw.hAll1 9 (by kernel_rfl) ?_
        refine Fw.hOp 9 rfl ?_
        refine Fw.gT (d := 40) rfl rfl ?_
        refine Fw.call cf13 rfl rfl (rsame_any _ AB [Hi.atV tick (Hi.runL l)] cB (some ⟨gS45, 0, none⟩) [Hi.atV tick (Hi.runL l)] 1 (Rd.of_own HOB) (show Rd _ _ (Hi.vals [_]) from Fw.rdBlk HS45) (by simp) (by simp)) ?_
        rintro e_ w16 ⟨rfl, hb⟩
        refine ⟨_, rfl, ?_⟩
        replace HC := HC.low hb
        replace HM := HM.low hb
        replace HX := HX.low hb
        replace HY := HY.low hb
        replace HS := HS.trans (hb.mono HS.size)
        replace HS42 := HS42.low hb
        replace HS45 := HS45.low hb
        replace HOB := own_below HOB hb (Nat.le_refl _)
        replace HB := HB.trans (hb.mono HB.size)
        clear hb
        refine Fw.bT (by rw [Hi.apart_same]; rfl) ?_
        refine Fw.hNext HS ?_
        refine Fw.hTake 10 rfl rfl (by kernel_rfl) (by kernel_rfl) (by kernel_rfl) (Fw.yV (Fw.val_pickT rfl rfl)) rfl ?_
        refine Fw.hTake 11 rfl rfl (by kernel_rfl) (by kernel_rfl) (by kernel_rfl) (Fw.yV (Fw.val_assign rfl)) rfl ?_
        refine Fw.hDone (by kernel_rfl) ?_
        refine hK7 _ _ (Fw.FC.sub (f' := [(4, _)]) (.cons rfl .nil) ?_)
        refine Fw.ret ?_
        refine Fw.ret_ [.tmp 4] [_] Try.results4 (.tmp rfl .nil) ?_
        exact ⟨rfl, HB⟩
    · skip
      refine Fw.hOp 8 rfl ?_
      refine Fw.gT (d := 40) rfl rfl ?_
      refine Fw.buildSlice [_] sl22 rfl rfl (by exact Fw.allSz rfl) (by decide) rfl ?_
      intro w17 gS45 egS45 HS45 hb
      have fr_HC_gS45 := HC.fresh egS45
      have fr_HM_gS45 := Fw.RdT.fresh HM egS45
      have rgS45 : w8.heap.size ≤ gS45 := by have := HS.size; omega
      have n_gX_gS45 : gX < gS45 := by have := HX.lt; omega
      have n_gY_gS45 : gY < gS45 := by have := HY.lt; omega
      have lgS45 : w.heap.size ≤ gS45 := by have := HB.size; omega
      replace HC := HC.low hb
      replace HM := HM.low hb
      replace HX := HX.low hb
      replace HY := HY.low hb
      replace HS := HS.trans (hb.mono HS.size)
      replace HB := HB.trans (hb.mono HB.size)
      clear hb
      clear egS45
      refine Fw.hNext HS ?_
      refine Fw.hAll1 5 (by kernel_rfl) ?_
      refine Fw.hOp 5 rfl ?_
      refine Fw.gT (d := 40) rfl rfl ?_
      refine Fw.buildSlice [_] sl38 rfl rfl (by exact Fw.allSz rfl) (by decide) rfl ?_
      intro w18 gS42 egS42 HS42 hb
      have fr_HC_gS42 := HC.fresh egS42
      have fr_HM_gS42 := Fw.RdT.fresh HM egS42
      have rgS42 : w8.heap.size ≤ gS42 := by have := HS.size; omega
      have n_gX_gS42 : gX < gS42 := by have := HX.lt; omega
      have n_gY_gS42 : gY < gS42 := by have := HY.lt; omega
      have n_gS45_gS42 : gS45 < gS42 := by have := HS45.lt; omega
      have lgS42 : w.heap.size ≤ gS42 := by have := HB.size; omega
      replace HC := HC.low hb
      replace HM := HM.low hb
      replace HX := HX.low hb
      replace HY := HY.low hb
      replace HS := HS.trans (hb.mono HS.size)
      replace HS45 := HS45.low hb
      replace HB := HB.trans (hb.mono HB.size)
      clear hb
      clear egS42
      refine Fw.hNext HS ?_
      refine Fw.hAll1 6 (by kernel_rfl) ?_
      refine Fw.hOp 6 rfl ?_
      refine Fw.gT (d := 40) rfl rfl ?_
      refine Fw.call cf14 rfl rfl (back_any _ (some ⟨gS42, 0, none⟩) [Hi.atV tick (Hi.runL l)] 1 (show Rd _ _ (Hi.vals [_]) from Fw.rdBlk HS42) (by simp)) ?_
      rintro e_ w19 ⟨AB, cB, rfl, HOB, hb⟩
      refine ⟨_, rfl, ?_⟩
      replace HC := HC.low hb
      replace HM := HM.low hb
      replace HX := HX.low hb
      replace HY := HY.low hb
      replace HS := HS.trans (hb.mono HS.size)
      replace HS45 := HS45.low hb
      replace HS42 := HS42.low hb
      replace HB := HB.trans (hb.mono HB.size)
      clear hb
      refine Fw.hNext HS ?_
      refine Fw.hAll1 9 (by kernel_rfl) ?_
      refine Fw.hOp 9 rfl ?_
      refine Fw.gT (d := 40) rfl rfl ?_
      refine Fw.call cf13 rfl rfl (rsame_any _ AB [Hi.atV tick (Hi.runL l)] cB (some ⟨gS45, 0, none⟩) [Hi.atV tick (Hi.runL l)] 1 (Rd.of_own HOB) (show Rd _ _ (Hi.vals [_]) from Fw.rdBlk HS45) (by simp) (by simp)) ?_
      rintro e_ w20 ⟨rfl, hb⟩
      refine ⟨_, rfl, ?_⟩
      replace HC := HC.low hb
      replace HM := HM.low hb
      replace HX := HX.low hb
      replace HY := HY.low hb
      replace HS := HS.trans (hb.mono HS.size)
      replace HS45 := HS45.low hb
      replace HS42 := HS42.low hb
      replace HOB := own_below HOB hb (Nat.le_refl _)
      replace HB := HB.trans (hb.mono HB.size)
      clear hb
      refine Fw.bT (by rw [Hi.apart_same]; rfl) ?_
      refine Fw.hNext HS ?_
      refine Fw.hTake 10 rfl rfl (by kernel_rfl) (by kernel_rfl) (by kernel_rfl) (Fw.yV (Fw.val_pickT rfl rfl)) rfl ?_
      refine Fw.hTake 11 rfl rfl (by kernel_rfl) (by kernel_rfl) (by kernel_rfl) (Fw.yV (Fw.val_assign rfl)) rfl ?_
      refine Fw.hDone (by kernel_rfl) ?_
      refine hK7 _ _ (Fw.FC.sub (f' := [(4, _)]) (.cons rfl .nil) ?_)
      refine Fw.ret ?_
      refine Fw.ret_ [.tmp 4] [_] Try.results4 (.tmp rfl .nil) ?_
      exact ⟨rfl, HB⟩
  · skip
    refine Fw.calls Try.func4 rfl Try.ntmps4 rfl ?_
    have HB := Below.refl (w.heap.size) w
    refine Fw.seq fun _ hK1 => ?_
    refine Fw.region ?_
    refine Fw.s (Fw.val_assign rfl) rfl ?_
    refine Fw.nil ?_
    refine hK1 _ _ ?_
    refine Fw.seq fun _ hK2 => ?_
    refine Fw.region ?_
    refine Fw.s (Fw.val_move rfl) rfl ?_
    refine Fw.call cf9 rfl rfl (run_big w A l c (by omega)) ?_
    rintro e_ w1 ⟨rfl, hb⟩
    refine ⟨_, rfl, ?_⟩
    replace HB := HB.trans (hb.mono HB.size)
    clear hb
    refine Fw.s (Fw.val_move rfl) rfl ?_
    refine Fw.s (Fw.val_extract rfl rfl) rfl ?_
    refine Fw.s (Fw.val_extract rfl rfl) rfl ?_
    refine Fw.s (Fw.val_extract rfl rfl) rfl ?_
    refine Fw.s (Fw.val_assign rfl) rfl ?_
    refine Fw.s (Fw.val_assign rfl) rfl ?_
    refine Fw.s (Fw.val_assign rfl) rfl ?_
    refine Fw.nil ?_
    refine hK2 _ _ (Fw.FC.sub (f' := [(6, _), (5, _), (1, _)]) (.cons rfl (.cons rfl (.cons rfl .nil))) ?_)
    refine Fw.seq fun _ hK3 => ?_
    refine Fw.seq fun _ hK4 => ?_
    refine Fw.region ?_
    refine Fw.call cf10 rfl rfl (awake_any _) ?_
    rintro e_ w2 ⟨rfl, hb⟩
    refine ⟨_, rfl, ?_⟩
    replace HB := HB.trans (hb.mono HB.size)
    clear hb
    refine Fw.s (Fw.val_not rfl) rfl ?_
    refine Fw.s (Fw.val_move rfl) rfl ?_
    refine Fw.gT (d := 20) rfl rfl ?_
    refine Fw.s (Fw.val_move rfl) rfl ?_
    refine Fw.gT (d := 20) rfl rfl ?_
    refine Fw.s (Fw.val_bin rfl rfl (Fw.b_nilP Try.underlying23)) rfl ?_
    refine Fw.s (Fw.val_pickF rfl rfl) rfl ?_
    refine Fw.nil ?_
    refine hK4 _ _ ?_
    refine Fw.condT rfl ?_
    refine Fw.seq fun _ hK5 => ?_
    refine Fw.region ?_
    refine Fw.call cf10 rfl rfl (awake_any _) ?_
    rintro e_ w3 ⟨rfl, hb⟩
    refine ⟨_, rfl, ?_⟩
    replace HB := HB.trans (hb.mono HB.size)
    clear hb
    refine Fw.s (Fw.val_assign rfl) rfl ?_
    refine Fw.nil ?_
    refine hK5 _ _ (Fw.FC.sub (f' := [(4, _)]) (.cons rfl .nil) ?_)
    refine Fw.ret ?_
    refine Fw.X_ret ?_
    refine Fw.ret_ [.tmp 4] [_] Try.results4 (.tmp rfl .nil) ?_
    exact ⟨rfl, HB⟩

set_option maxRecDepth 100000 in
theorem verify_walk (w : World) (A : Option Addr) (l : List Hi.V) (c : Nat) (h : Rd w A (Hi.vals l)) :
    Calls Try.prog 5 #[.slice A l.length c] w fun e w' => e = .returned (.bool true) ∧ Below w.heap.size w w' := by
  by_cases hl : l.length ≤ 60
  · skip
    refine Fw.calls Try.func5 rfl Try.ntmps5 rfl ?_
    have HB := Below.refl (w.heap.size) w
    refine Fw.seq fun _ hK1 => ?_
    refine Fw.region ?_
    refine Fw.s (Fw.val_assign rfl) rfl ?_
    refine Fw.nil ?_
    refine hK1 _ _ ?_
    refine Fw.seq fun _ hK2 => ?_
    refine Fw.seq fun _ hK3 => ?_
    refine Fw.region ?_
    refine Fw.call cf10 rfl rfl (awake_any _) ?_
    rintro e_ w1 ⟨rfl, hb⟩
    refine ⟨_, rfl, ?_⟩
    replace HB := HB.trans (hb.mono HB.size)
    clear hb
    refine Fw.s (Fw.val_not rfl) rfl ?_
    refine Fw.s (Fw.val_move rfl) rfl ?_
    refine Fw.gT (d := 5) rfl rfl ?_
    refine Fw.s (Fw.val_move rfl) rfl ?_
    refine Fw.gT (d := 5) rfl rfl ?_
    refine Fw.s (Fw.val_len Try.underlying22 rfl) rfl ?_
    refine Fw.gT (d := 5) rfl rfl ?_
    refine Fw.s (Fw.Val.F (Fw.val_bin rfl rfl Fw.b_gtr) (by omega)) rfl ?_
    refine Fw.s (Fw.val_pickF rfl rfl) rfl ?_
    refine Fw.nil ?_
    refine hK3 _ _ (Fw.FC.sub (f' := [(9, _), (0, _)]) (.cons rfl (.cons rfl .nil)) ?_)
    refine Fw.condF rfl ?_
    refine Fw.skip ?_
    refine hK2 _ _ ?_
    refine Fw.seq fun _ hK4 => ?_
    refine Fw.region ?_
    refine Fw.s (Fw.val_move rfl) rfl ?_
    refine Fw.call cf16 rfl rfl (own_any _ A l c (h.low HB) (by omega)) ?_
    rintro e_ w2 ⟨A1, c1, rfl, HO1, hb⟩
    refine ⟨_, rfl, ?_⟩
    replace HB := HB.trans (hb.mono HB.size)
    clear hb
    refine Fw.call cf15 rfl rfl (verify_any _ A1 l c1 (Rd.of_own HO1) (by omega)) ?_
    rintro e_ w3 ⟨rfl, hb⟩
    refine ⟨_, rfl, ?_⟩
    replace HO1 := own_below HO1 hb (Nat.le_refl _)
    replace HB := HB.trans (hb.mono HB.size)
    clear hb
    refine Fw.s (Fw.val_move rfl) rfl ?_
    refine Fw.call cf17 rfl rfl (check_any _ A l c (h.low HB) (by omega)) ?_
    rintro e_ w4 ⟨rfl, hb⟩
    refine ⟨_, rfl, ?_⟩
    replace HO1 := own_below HO1 hb (Nat.le_refl _)
    replace HB := HB.trans (hb.mono HB.size)
    clear hb
    refine Fw.s (Fw.Val.T (Fw.val_bin rfl rfl Fw.b_eql) (by rfl)) rfl ?_
    refine Fw.s (Fw.val_assign rfl) rfl ?_
    refine Fw.nil ?_
    refine hK4 _ _ (Fw.FC.sub (f' := [(2, _)]) (.cons rfl .nil) ?_)
    refine Fw.ret ?_
    refine Fw.ret_ [.tmp 2] [_] Try.results5 (.tmp rfl .nil) ?_
    exact ⟨rfl, HB⟩
  · skip
    refine Fw.calls Try.func5 rfl Try.ntmps5 rfl ?_
    have HB := Below.refl (w.heap.size) w
    refine Fw.seq fun _ hK1 => ?_
    refine Fw.region ?_
    refine Fw.s (Fw.val_assign rfl) rfl ?_
    refine Fw.nil ?_
    refine hK1 _ _ ?_
    refine Fw.seq fun _ hK2 => ?_
    refine Fw.seq fun _ hK3 => ?_
    refine Fw.region ?_
    refine Fw.call cf10 rfl rfl (awake_any _) ?_
    rintro e_ w1 ⟨rfl, hb⟩
    refine ⟨_, rfl, ?_⟩
    replace HB := HB.trans (hb.mono HB.size)
    clear hb
    refine Fw.s (Fw.val_not rfl) rfl ?_
    refine Fw.s (Fw.val_move rfl) rfl ?_
    refine Fw.gT (d := 5) rfl rfl ?_
    refine Fw.s (Fw.val_move rfl) rfl ?_
    refine Fw.gT (d := 5) rfl rfl ?_
    refine Fw.s (Fw.val_len Try.underlying22 rfl) rfl ?_
    refine Fw.gT (d := 5) rfl rfl ?_
    refine Fw.s (Fw.Val.T (Fw.val_bin rfl rfl Fw.b_gtr) (by omega)) rfl ?_
    refine Fw.s (Fw.val_pickF rfl rfl) rfl ?_
    refine Fw.nil ?_
    refine hK3 _ _ (Fw.FC.sub (f' := [(9, _), (0, _)]) (.cons rfl (.cons rfl .nil)) ?_)
    refine Fw.condT rfl ?_
    refine Fw.seq fun _ hK4 => ?_
    refine Fw.region ?_
    refine Fw.call cf10 rfl rfl (awake_any _) ?_
    rintro e_ w2 ⟨rfl, hb⟩
    refine ⟨_, rfl, ?_⟩
    replace HB := HB.trans (hb.mono HB.size)
    clear hb
    refine Fw.s (Fw.val_assign rfl) rfl ?_
    refine Fw.nil ?_
    refine hK4 _ _ ?_
    refine Fw.ret ?_
    refine Fw.X_ret ?_
    refine Fw.ret_ [.tmp 2] [_] Try.results5 (.tmp rfl .nil) ?_
    exact ⟨rfl, HB⟩

set_option maxRecDepth 100000 in
theorem diverge_walk (w : World) (A : Option Addr) (l : List Hi.V) (c : Nat) (h : Rd w A (Hi.vals l)) (A' : Option Addr) (l' : List Hi.V) (c' : Nat) (h' : Rd w A' (Hi.vals l')) :
    Calls Try.prog 6 #[.slice A l.length c, .slice A' l'.length c'] w fun e w' => e = .returned (.bool true) ∧ Below w.heap.size w w' := by
  by_cases hl : l.length ≤ 60
  · by_cases hl' : l'.length ≤ 60
    · skip
      refine Fw.calls Try.func6 rfl Try.ntmps6 rfl ?_
      have HB := Below.refl (w.heap.size) w
      refine Fw.seq fun _ hK1 => ?_
      refine Fw.region ?_
      refine Fw.s (Fw.val_assign rfl) rfl ?_
      refine Fw.nil ?_
      refine hK1 _ _ ?_
      refine Fw.seq fun _ hK2 => ?_
      refine Fw.seq fun _ hK3 => ?_
      refine Fw.region ?_
      refine Fw.call cf10 rfl rfl (awake_any _) ?_
      rintro e_ w1 ⟨rfl, hb⟩
      refine ⟨_, rfl, ?_⟩
      replace HB := HB.trans (hb.mono HB.size)
      clear hb
      refine Fw.s (Fw.val_not rfl) rfl ?_
      refine Fw.s (Fw.val_move rfl) rfl ?_
      refine Fw.gT (d := 8) rfl rfl ?_
      refine Fw.s (Fw.val_move rfl) rfl ?_
      refine Fw.gT (d := 8) rfl rfl ?_
      refine Fw.s (Fw.val_len Try.underlying22 rfl) rfl ?_
      refine Fw.gT (d := 8) rfl rfl ?_
      refine Fw.s (Fw.Val.F (Fw.val_bin rfl rfl Fw.b_gtr) (by omega)) rfl ?_
      refine Fw.s (Fw.val_pickF rfl rfl) rfl ?_
      refine Fw.s (Fw.val_move rfl) rfl ?_
      refine Fw.gT (d := 13) rfl rfl ?_
      refine Fw.s (Fw.val_move rfl) rfl ?_
      refine Fw.gT (d := 13) rfl rfl ?_
      refine Fw.s (Fw.val_len Try.underlying22 rfl) rfl ?_
      refine Fw.gT (d := 13) rfl rfl ?_
      refine Fw.s (Fw.Val.F (Fw.val_bin rfl rfl Fw.b_gtr) (by omega)) rfl ?_
      refine Fw.s (Fw.val_pickF rfl rfl) rfl ?_
      refine Fw.nil ?_
      refine hK3 _ _ (Fw.FC.sub (f' := [(17, _), (0, _), (1, _)]) (.cons rfl (.cons rfl (.cons rfl .nil))) ?_)
      refine Fw.condF rfl ?_
      refine Fw.skip ?_
      refine hK2 _ _ ?_
      refine Fw.seq fun _ hK4 => ?_
      refine Fw.region ?_
      refine Fw.s (Fw.val_move rfl) rfl ?_
      refine Fw.call cf16 rfl rfl (own_any _ A l c (h.low HB) (by omega)) ?_
      rintro e_ w2 ⟨A1, c1, rfl, HO1, hb⟩
      refine ⟨_, rfl, ?_⟩
      replace HB := HB.trans (hb.mono HB.size)
      clear hb
      refine Fw.s (Fw.val_move rfl) rfl ?_
      refine Fw.call cf16 rfl rfl (own_any _ A' l' c' (h'.low HB) (by omega)) ?_
      rintro e_ w3 ⟨A2, c2, rfl, HO2, hb⟩
      refine ⟨_, rfl, ?_⟩
      replace HO1 := own_below HO1 hb (Nat.le_refl _)
      replace HB := HB.trans (hb.mono HB.size)
      clear hb
      refine Fw.call cf18 rfl rfl (diverge_any _ A1 l c1 A2 l' c2 (Rd.of_own HO1) (Rd.of_own HO2) (by omega) (by omega)) ?_
      rintro e_ w4 ⟨rfl, hb⟩
      refine ⟨_, rfl, ?_⟩
      replace HO1 := own_below HO1 hb (Nat.le_refl _)
      replace HO2 := own_below HO2 hb (Nat.le_refl _)
      replace HB := HB.trans (hb.mono HB.size)
      clear hb
      refine Fw.s (Fw.val_assign rfl) rfl ?_
      refine Fw.nil ?_
      refine hK4 _ _ ?_
      refine Fw.seq fun _ hK5 => ?_
      refine Fw.region ?_
      refine Fw.s (Fw.val_move rfl) rfl ?_
      refine Fw.s (Fw.val_move rfl) rfl ?_
      refine Fw.s (Fw.val_move rfl) rfl ?_
      refine Fw.call cf19 rfl rfl (rapart_any _ A l c A' l' c' (h.low HB) (h'.low HB) (by omega) (by omega)) ?_
      rintro e_ w5 ⟨rfl, hb⟩
      refine ⟨_, rfl, ?_⟩
      replace HO1 := own_below HO1 hb (Nat.le_refl _)
      replace HO2 := own_below HO2 hb (Nat.le_refl _)
      replace HB := HB.trans (hb.mono HB.size)
      clear hb
      refine Fw.s (Fw.Val.T (Fw.val_bin rfl rfl Fw.b_eql) (by rfl)) rfl ?_
      refine Fw.s (Fw.val_move rfl) rfl ?_
      refine Fw.gT (d := 29) rfl rfl ?_
      refine Fw.s (Fw.val_move rfl) rfl ?_
      refine Fw.gT (d := 29) rfl rfl ?_
      refine Fw.s (Fw.val_move rfl) rfl ?_
      refine Fw.gT (d := 29) rfl rfl ?_
      refine Fw.call cf16 rfl rfl (own_any _ A' l' c' (h'.low HB) (by omega)) ?_
      rintro e_ w6 ⟨A3, c3, rfl, HO3, hb⟩
      refine ⟨_, rfl, ?_⟩
      replace HO1 := own_below HO1 hb (Nat.le_refl _)
      replace HO2 := own_below HO2 hb (Nat.le_refl _)
      replace HB := HB.trans (hb.mono HB.size)
      clear hb
      refine Fw.gT (d := 29) rfl rfl ?_
      refine Fw.s (Fw.val_move rfl) rfl ?_
      refine Fw.gT (d := 29) rfl rfl ?_
      refine Fw.call cf16 rfl rfl (own_any _ A l c (h.low HB) (by omega)) ?_
      rintro e_ w7 ⟨A4, c4, rfl, HO4, hb⟩
      refine ⟨_, rfl, ?_⟩
      replace HO1 := own_below HO1 hb (Nat.le_refl _)
      replace HO2 := own_below HO2 hb (Nat.le_refl _)
      replace HO3 := own_below HO3 hb (Nat.le_refl _)
      replace HB := HB.trans (hb.mono HB.size)
      clear hb
      refine Fw.gT (d := 29) rfl rfl ?_
      refine Fw.call cf18 rfl rfl (diverge_any _ A3 l' c3 A4 l c4 (Rd.of_own HO3) (Rd.of_own HO4) (by omega) (by omega)) ?_
      rintro e_ w8 ⟨rfl, hb⟩
      refine ⟨_, rfl, ?_⟩
      replace HO1 := own_below HO1 hb (Nat.le_refl _)
      replace HO2 := own_below HO2 hb (Nat.le_refl _)
      replace HO3 := own_below HO3 hb (Nat.le_refl _)
      replace HO4 := own_below HO4 hb (Nat.le_refl _)
      replace HB := HB.trans (hb.mono HB.size)
      clear hb
      refine Fw.gT (d := 29) rfl rfl ?_
      refine Fw.s (Fw.Val.T (Fw.val_bin rfl rfl Fw.b_eql) (by exact Hi.apart_comm _ _)) rfl ?_
      refine Fw.s (Fw.val_pickT rfl rfl) rfl ?_
      refine Fw.s (Fw.val_assign rfl) rfl ?_
      refine Fw.nil ?_
      refine hK5 _ _ (Fw.FC.sub (f' := [(4, _)]) (.cons rfl .nil) ?_)
      refine Fw.ret ?_
      refine Fw.ret_ [.tmp 4] [_] Try.results6 (.tmp rfl .nil) ?_
      exact ⟨rfl, HB⟩
    · skip
      refine Fw.calls Try.func6 rfl Try.ntmps6 rfl ?_
      have HB := Below.refl (w.heap.size) w
      refine Fw.seq fun _ hK1 => ?_
      refine Fw.region ?_
      refine Fw.s (Fw.val_assign rfl) rfl ?_
      refine Fw.nil ?_
      refine hK1 _ _ ?_
      refine Fw.seq fun _ hK2 => ?_
      refine Fw.seq fun _ hK3 => ?_
      refine Fw.region ?_
      refine Fw.call cf10 rfl rfl (awake_any _) ?_
      rintro e_ w1 ⟨rfl, hb⟩
      refine ⟨_, rfl, ?_⟩
      replace HB := HB.trans (hb.mono HB.size)
      clear hb
      refine Fw.s (Fw.val_not rfl) rfl ?_
      refine Fw.s (Fw.val_move rfl) rfl ?_
      refine Fw.gT (d := 8) rfl rfl ?_
      refine Fw.s (Fw.val_move rfl) rfl ?_
      refine Fw.gT (d := 8) rfl rfl ?_
      refine Fw.s (Fw.val_len Try.underlying22 rfl) rfl ?_
      refine Fw.gT (d := 8) rfl rfl ?_
      refine Fw.s (Fw.Val.F (Fw.val_bin rfl rfl Fw.b_gtr) (by omega)) rfl ?_
      refine Fw.s (Fw.val_pickF rfl rfl) rfl ?_
      refine Fw.s (Fw.val_move rfl) rfl ?_
      refine Fw.gT (d := 13) rfl rfl ?_
      refine Fw.s (Fw.val_move rfl) rfl ?_
      refine Fw.gT (d := 13) rfl rfl ?_
      refine Fw.s (Fw.val_len Try.underlying22 rfl) rfl ?_
      refine Fw.gT (d := 13) rfl rfl ?_
      refine Fw.s (Fw.Val.T (Fw.val_bin rfl rfl Fw.b_gtr) (by omega)) rfl ?_
      refine Fw.s (Fw.val_pickF rfl rfl) rfl ?_
      refine Fw.nil ?_
      refine hK3 _ _ (Fw.FC.sub (f' := [(17, _), (0, _), (1, _)]) (.cons rfl (.cons rfl (.cons rfl .nil))) ?_)
      refine Fw.condT rfl ?_
      refine Fw.seq fun _ hK4 => ?_
      refine Fw.region ?_
      refine Fw.call cf10 rfl rfl (awake_any _) ?_
      rintro e_ w2 ⟨rfl, hb⟩
      refine ⟨_, rfl, ?_⟩
      replace HB := HB.trans (hb.mono HB.size)
      clear hb
      refine Fw.s (Fw.val_assign rfl) rfl ?_
      refine Fw.nil ?_
      refine hK4 _ _ ?_
      refine Fw.ret ?_
      refine Fw.X_ret ?_
      refine Fw.ret_ [.tmp 4] [_] Try.results6 (.tmp rfl .nil) ?_
      exact ⟨rfl, HB⟩
  · skip
    refine Fw.calls Try.func6 rfl Try.ntmps6 rfl ?_
    have HB := Below.refl (w.heap.size) w
    refine Fw.seq fun _ hK1 => ?_
    refine Fw.region ?_
    refine Fw.s (Fw.val_assign rfl) rfl ?_
    refine Fw.nil ?_
    refine hK1 _ _ ?_
    refine Fw.seq fun _ hK2 => ?_
    refine Fw.seq fun _ hK3 => ?_
    refine Fw.region ?_
    refine Fw.call cf10 rfl rfl (awake_any _) ?_
    rintro e_ w1 ⟨rfl, hb⟩
    refine ⟨_, rfl, ?_⟩
    replace HB := HB.trans (hb.mono HB.size)
    clear hb
    refine Fw.s (Fw.val_not rfl) rfl ?_
    refine Fw.s (Fw.val_move rfl) rfl ?_
    refine Fw.gT (d := 8) rfl rfl ?_
    refine Fw.s (Fw.val_move rfl) rfl ?_
    refine Fw.gT (d := 8) rfl rfl ?_
    refine Fw.s (Fw.val_len Try.underlying22 rfl) rfl ?_
    refine Fw.gT (d := 8) rfl rfl ?_
    refine Fw.s (Fw.Val.T (Fw.val_bin rfl rfl Fw.b_gtr) (by omega)) rfl ?_
    refine Fw.s (Fw.val_pickF rfl rfl) rfl ?_
    refine Fw.s (Fw.val_move rfl) rfl ?_
    refine Fw.gF (d := 13) rfl rfl rfl rfl ?_
    refine Fw.gF (d := 13) rfl rfl rfl rfl ?_
    refine Fw.gF (d := 13) rfl rfl rfl rfl ?_
    refine Fw.s (Fw.val_pickT rfl rfl) rfl ?_
    refine Fw.nil ?_
    refine hK3 _ _ (Fw.FC.sub (f' := [(17, _), (0, _), (1, _)]) (.cons rfl (.cons rfl (.cons rfl .nil))) ?_)
    refine Fw.condT rfl ?_
    refine Fw.seq fun _ hK4 => ?_
    refine Fw.region ?_
    refine Fw.call cf10 rfl rfl (awake_any _) ?_
    rintro e_ w2 ⟨rfl, hb⟩
    refine ⟨_, rfl, ?_⟩
    replace HB := HB.trans (hb.mono HB.size)
    clear hb
    refine Fw.s (Fw.val_assign rfl) rfl ?_
    refine Fw.nil ?_
    refine hK4 _ _ ?_
    refine Fw.ret ?_
    refine Fw.X_ret ?_
    refine Fw.ret_ [.tmp 4] [_] Try.results6 (.tmp rfl .nil) ?_
    exact ⟨rfl, HB⟩
end Go.Proofs.Ytgmhcfhmpjpomaa
