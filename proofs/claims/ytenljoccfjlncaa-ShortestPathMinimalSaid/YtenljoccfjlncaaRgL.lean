/- Layer 9: the example that the laws check first. -/
import Derived.Test.YtenljoccfjlncaaRgK
namespace Go.Proofs.Ytenljoccfjlncaa
set_option linter.unusedSimpArgs false
set_option linter.unusedVariables false
open Go.RowKit

set_option maxRecDepth 100000 in
set_option maxHeartbeats 4000000 in
theorem lawake_any (w : World) : Calls Try.prog 12 #[] w fun e_ w' => e_ = .returned (.bool true) ∧ Below w.heap.size w w' := by
  obtain ⟨D1, hD1⟩ := Rg.dist_ex (N := 3) [5, 5, 10] (b := 2) Rg.g3_net.ok (by decide) (by decide)
  obtain ⟨hD10, hD1l⟩ := Rg.g3_way1 hD1
  obtain ⟨D2, hD2⟩ := Rg.dist_ex (N := 3) [5, 5, 4611686018427387904] (b := 2) Rg.g3_net.ok (by decide) (by decide)
  obtain ⟨hD20, hD2l⟩ := Rg.g3_way2 hD2
  obtain ⟨D3, hD3⟩ := Rg.dist_ex (N := 3) [] (b := 2) Rg.g3_net.ok (by decide) (by decide)
  have hD30 := Rg.g3_way3 hD3
  refine Fw.calls Try.func12 rfl Try.ntmps12 rfl ?_
  have HB := Below.refl (w.heap.size) w
  refine Fw.seq fun _ hK1 => ?_
  refine Fw.region ?_
  refine Fw.s (Fw.val_assign rfl) rfl ?_
  refine Fw.nil ?_
  refine hK1 _ _ ?_
  refine Fw.seq fun _ hK2 => ?_
  refine Fw.region ?_
  refine Fw.s (Fw.val_build (ps := [(0, _), (1, _), (2, _)]) rfl (bu63_0_1_2 _ _ _)) rfl ?_
  refine Fw.s (Fw.val_build (ps := [(0, _), (1, _), (2, _)]) rfl (bu63_0_1_2 _ _ _)) rfl ?_
  refine Fw.s (Fw.val_build (ps := [(0, _), (1, _), (2, _)]) rfl (bu63_0_1_2 _ _ _)) rfl ?_
  refine Fw.buildSlice [_, _, _] sl22 rfl rfl (by exact Fw.allSz rfl) (by decide) rfl ?_
  intro w1 gS19 egS19 HS19 hb
  have lgS19 : w.heap.size ≤ gS19 := by have := HB.size; omega
  replace HB := HB.trans (hb.mono HB.size)
  clear hb
  clear egS19
  refine Fw.s (Fw.val_build (ps := [(0, _), (1, _)]) rfl (bu24_0_1 _ _ _ _)) rfl ?_
  refine Fw.call cf11 rfl rfl (net_any _ 3 Rg.g3 (some ⟨gS19, 0, none⟩) 3 (Fw.rdBlk HS19) Rg.g3_net) ?_
  rintro e_ w2 ⟨g, rfl, HG, hb⟩
  refine ⟨_, rfl, ?_⟩
  replace HS19 := HS19.low hb
  replace HB := HB.trans (hb.mono HB.size)
  clear hb
  refine Fw.s (Fw.val_assign rfl) rfl ?_
  refine Fw.nil ?_
  refine hK2 _ _ (Fw.FC.sub (f' := [(1, _)]) (.cons rfl .nil) ?_)
  refine Fw.seq fun _ hK3 => ?_
  refine Fw.seq fun _ hK4 => ?_
  refine Fw.region ?_
  refine Fw.s (Fw.val_move rfl) rfl ?_
  refine Fw.s (Fw.val_bin rfl rfl (Fw.b_nilP Try.underlying27)) rfl ?_
  refine Fw.nil ?_
  refine hK4 _ _ ?_
  refine Fw.condF rfl ?_
  refine Fw.skip ?_
  refine hK3 _ _ ?_
  refine Fw.seq fun _ hK5 => ?_
  refine Fw.region ?_
  refine Fw.s (Fw.val_move rfl) rfl ?_
  refine Fw.buildSlice [_, _, _] sl25 rfl rfl (by exact Fw.allSz rfl) (by decide) rfl ?_
  intro w3 gS25 egS25 HS25 hb
  have lgS25 : w.heap.size ≤ gS25 := by have := HB.size; omega
  replace HG := HG.low hb
  replace HB := HB.trans (hb.mono HB.size)
  clear hb
  clear egS25
  refine Fw.buildSlice [_] sl26 rfl rfl (by exact Fw.allSz rfl) (by decide) rfl ?_
  intro w4 gS26 egS26 HS26 hb
  have n_gS25_gS26 : gS25 < gS26 := by have := HS25.lt; omega
  have lgS26 : w.heap.size ≤ gS26 := by have := HB.size; omega
  replace HG := HG.low hb
  replace HS25 := HS25.low hb
  replace HB := HB.trans (hb.mono HB.size)
  clear hb
  clear egS26
  refine Fw.call cf15 rfl rfl (from_any _ g 3 Rg.g3 HG (by decide) (by decide) Rg.g3_net.ok (some ⟨gS25, 0, none⟩) [5, 5, 10] 3 (Fw.rdBlk HS25) (some ⟨gS26, 0, none⟩) [0] 1 (by decide) (Fw.rdBlk HS26)) ?_
  rintro e_ w5 ⟨Ad, cd, dl, rfl, HD, hdl, hdist, hb⟩
  refine ⟨_, rfl, ?_⟩
  replace HG := HG.low hb
  replace HS25 := HS25.low hb
  replace HS26 := HS26.low hb
  replace HB := HB.trans (hb.mono HB.size)
  clear hb
  obtain rfl := Rg.g3_from hdl hdist
  obtain ⟨gD, rfl, lgD, _⟩ := Fw.own_form0 HD (by decide)
  refine Fw.s (Fw.val_assign rfl) rfl ?_
  refine Fw.nil ?_
  refine hK5 _ _ ?_
  refine Fw.seq fun _ hK6 => ?_
  refine Fw.region ?_
  refine Fw.s (Fw.val_move rfl) rfl ?_
  refine Fw.buildSlice [_, _, _] sl25 rfl rfl (by exact Fw.allSz rfl) (by decide) rfl ?_
  intro w6 gS30 egS30 HS30 hb
  have lgS30 : w.heap.size ≤ gS30 := by have := HB.size; omega
  replace HG := HG.low hb
  replace HD := own_below HD hb (Nat.le_refl _)
  replace HB := HB.trans (hb.mono HB.size)
  clear hb
  clear egS30
  refine Fw.call cf19 rfl rfl (path_any _ g 3 Rg.g3 HG Rg.g3_net.ok (by decide) (by decide) (some ⟨gS30, 0, none⟩) [5, 5, 10] 3 (Fw.rdBlk HS30) 0 2 (by decide) (by decide) D1 hD1) ?_
  rintro e_ w7 ⟨Ap1, cp1, lp, rfl, HP1, hPn, hPt, hb⟩
  refine ⟨_, rfl, ?_⟩
  replace HG := HG.low hb
  replace HD := own_below HD hb (Nat.le_refl _)
  replace HS30 := HS30.low hb
  replace HB := HB.trans (hb.mono HB.size)
  clear hb
  obtain rfl := hD1l _ (hPt (by rw [hD10]; decide))
  rw [if_neg (by rw [hD10]; decide), show Sp.dOf D1 0 = 10 by unfold Sp.dOf; rw [hD10]; decide, decide_eq_true (show D1 0 ≠ Sp.INF by rw [hD10]; decide)]
  obtain ⟨gP1, rfl, lgP1, _⟩ := Fw.own_form0 HP1 (by decide)
  clear hPn hPt
  refine Fw.s (Fw.val_move rfl) rfl ?_
  refine Fw.s (Fw.val_extract rfl rfl) rfl ?_
  refine Fw.s (Fw.val_extract rfl rfl) rfl ?_
  refine Fw.s (Fw.val_extract rfl rfl) rfl ?_
  refine Fw.s (Fw.val_assign rfl) rfl ?_
  refine Fw.s (Fw.val_assign rfl) rfl ?_
  refine Fw.s (Fw.val_assign rfl) rfl ?_
  refine Fw.nil ?_
  refine hK6 _ _ (Fw.FC.sub (f' := [(5, _), (4, _), (3, _), (2, _), (1, _)]) (.cons rfl (.cons rfl (.cons rfl (.cons rfl (.cons rfl .nil))))) ?_)
  refine Fw.seq fun _ hK7 => ?_
  refine Fw.region ?_
  refine Fw.s (Fw.val_move rfl) rfl ?_
  refine Fw.buildSlice [_, _, _] sl25 rfl rfl (by exact Fw.allSz rfl) (by decide) rfl ?_
  intro w8 gS37 egS37 HS37 hb
  have lgS37 : w.heap.size ≤ gS37 := by have := HB.size; omega
  replace HG := HG.low hb
  replace HD := own_below HD hb (Nat.le_refl _)
  replace HP1 := own_below HP1 hb (Nat.le_refl _)
  replace HB := HB.trans (hb.mono HB.size)
  clear hb
  clear egS37
  refine Fw.call cf19 rfl rfl (path_any _ g 3 Rg.g3 HG Rg.g3_net.ok (by decide) (by decide) (some ⟨gS37, 0, none⟩) [5, 5, 4611686018427387904] 3 (Fw.rdBlk HS37) 0 2 (by decide) (by decide) D2 hD2) ?_
  rintro e_ w9 ⟨Ap2, cp2, lp, rfl, HP2, hPn, hPt, hb⟩
  refine ⟨_, rfl, ?_⟩
  replace HG := HG.low hb
  replace HD := own_below HD hb (Nat.le_refl _)
  replace HP1 := own_below HP1 hb (Nat.le_refl _)
  replace HS37 := HS37.low hb
  replace HB := HB.trans (hb.mono HB.size)
  clear hb
  obtain rfl := hD2l _ (hPt (by rw [hD20]; decide))
  rw [if_neg (by rw [hD20]; decide), show Sp.dOf D2 0 = 10 by unfold Sp.dOf; rw [hD20]; decide, decide_eq_true (show D2 0 ≠ Sp.INF by rw [hD20]; decide)]
  obtain ⟨gP2, rfl, lgP2, _⟩ := Fw.own_form0 HP2 (by decide)
  clear hPn hPt
  refine Fw.s (Fw.val_move rfl) rfl ?_
  refine Fw.s (Fw.val_extract rfl rfl) rfl ?_
  refine Fw.s (Fw.val_extract rfl rfl) rfl ?_
  refine Fw.s (Fw.val_extract rfl rfl) rfl ?_
  refine Fw.s (Fw.val_assign rfl) rfl ?_
  refine Fw.s (Fw.val_assign rfl) rfl ?_
  refine Fw.s (Fw.val_assign rfl) rfl ?_
  refine Fw.nil ?_
  refine hK7 _ _ (Fw.FC.sub (f' := [(8, _), (7, _), (6, _), (5, _), (4, _), (3, _), (2, _), (1, _)]) (.cons rfl (.cons rfl (.cons rfl (.cons rfl (.cons rfl (.cons rfl (.cons rfl (.cons rfl .nil)))))))) ?_)
  refine Fw.seq fun _ hK8 => ?_
  refine Fw.region ?_
  refine Fw.s (Fw.val_move rfl) rfl ?_
  refine Fw.call cf19 rfl rfl (path_any _ g 3 Rg.g3 HG Rg.g3_net.ok (by decide) (by decide) none [] 0 (Rd.nil _ _) 0 2 (by decide) (by decide) D3 hD3) ?_
  rintro e_ w10 ⟨Ap3, cp3, lp, rfl, HP3, hPn, hPt, hb⟩
  refine ⟨_, rfl, ?_⟩
  replace HG := HG.low hb
  replace HD := own_below HD hb (Nat.le_refl _)
  replace HP1 := own_below HP1 hb (Nat.le_refl _)
  replace HP2 := own_below HP2 hb (Nat.le_refl _)
  replace HB := HB.trans (hb.mono HB.size)
  clear hb
  obtain rfl := hPn hD30
  rw [if_pos hD30, decide_eq_false (show ¬ D3 0 ≠ Sp.INF from fun h => h hD30)]
  clear HP3
  clear hPn hPt
  refine Fw.s (Fw.val_move rfl) rfl ?_
  refine Fw.s (Fw.val_extract rfl rfl) rfl ?_
  refine Fw.s (Fw.val_extract rfl rfl) rfl ?_
  refine Fw.s (Fw.val_extract rfl rfl) rfl ?_
  refine Fw.s (Fw.val_assign rfl) rfl ?_
  refine Fw.s (Fw.val_assign rfl) rfl ?_
  refine Fw.s (Fw.val_assign rfl) rfl ?_
  refine Fw.nil ?_
  refine hK8 _ _ (Fw.FC.sub (f' := [(11, _), (8, _), (7, _), (6, _), (5, _), (4, _), (3, _), (2, _), (1, _)]) (.cons rfl (.cons rfl (.cons rfl (.cons rfl (.cons rfl (.cons rfl (.cons rfl (.cons rfl (.cons rfl .nil))))))))) ?_)
  refine Fw.seq fun _ hK9 => ?_
  refine Fw.region ?_
  refine Fw.s (Fw.val_move rfl) rfl ?_
  refine Fw.buildSlice [_, _] sl25 rfl rfl (by exact Fw.allSz rfl) (by decide) rfl ?_
  intro w11 gS50 egS50 HS50 hb
  have lgS50 : w.heap.size ≤ gS50 := by have := HB.size; omega
  replace HG := HG.low hb
  replace HD := own_below HD hb (Nat.le_refl _)
  replace HP1 := own_below HP1 hb (Nat.le_refl _)
  replace HP2 := own_below HP2 hb (Nat.le_refl _)
  replace HB := HB.trans (hb.mono HB.size)
  clear hb
  clear egS50
  refine Fw.buildSlice [_, _] sl26 rfl rfl (by exact Fw.allSz rfl) (by decide) rfl ?_
  intro w12 gS51 egS51 HS51 hb
  have n_gS50_gS51 : gS50 < gS51 := by have := HS50.lt; omega
  have lgS51 : w.heap.size ≤ gS51 := by have := HB.size; omega
  replace HG := HG.low hb
  replace HD := own_below HD hb (Nat.le_refl _)
  replace HP1 := own_below HP1 hb (Nat.le_refl _)
  replace HP2 := own_below HP2 hb (Nat.le_refl _)
  replace HS50 := HS50.low hb
  replace HB := HB.trans (hb.mono HB.size)
  clear hb
  clear egS51
  refine Fw.call cf21 rfl rfl (pathTime_any _ g 3 Rg.g3 HG (by decide) (some ⟨gS50, 0, none⟩) [5, 5] 2 (Fw.rdBlk HS50) (some ⟨gS51, 0, none⟩) [0, 1] 2 (by decide) (Fw.rdBlk HS51) 0 2) ?_
  rintro e_ w13 ⟨rfl, hb⟩
  refine ⟨_, rfl, ?_⟩
  replace HG := HG.low hb
  replace HD := own_below HD hb (Nat.le_refl _)
  replace HP1 := own_below HP1 hb (Nat.le_refl _)
  replace HP2 := own_below HP2 hb (Nat.le_refl _)
  replace HS50 := HS50.low hb
  replace HS51 := HS51.low hb
  replace HB := HB.trans (hb.mono HB.size)
  clear hb
  rw [show Rg.ptime 3 Rg.g3 [5, 5] [0, 1] 0 2 = (10, 0) by decide]
  refine Fw.s (Fw.val_move rfl) rfl ?_
  refine Fw.s (Fw.val_extract rfl rfl) rfl ?_
  refine Fw.s (Fw.val_extract rfl rfl) rfl ?_
  refine Fw.s (Fw.val_assign rfl) rfl ?_
  refine Fw.s (Fw.val_assign rfl) rfl ?_
  refine Fw.nil ?_
  refine hK9 _ _ (Fw.FC.sub (f' := [(13, _), (12, _), (11, _), (8, _), (7, _), (6, _), (5, _), (4, _), (3, _), (2, _), (1, _)]) (.cons rfl (.cons rfl (.cons rfl (.cons rfl (.cons rfl (.cons rfl (.cons rfl (.cons rfl (.cons rfl (.cons rfl (.cons rfl .nil))))))))))) ?_)
  refine Fw.seq fun _ hK10 => ?_
  refine Fw.region ?_
  refine Fw.s (Fw.val_move rfl) rfl ?_
  refine Fw.buildSlice [_, _] sl25 rfl rfl (by exact Fw.allSz rfl) (by decide) rfl ?_
  intro w14 gS57 egS57 HS57 hb
  have lgS57 : w.heap.size ≤ gS57 := by have := HB.size; omega
  replace HG := HG.low hb
  replace HD := own_below HD hb (Nat.le_refl _)
  replace HP1 := own_below HP1 hb (Nat.le_refl _)
  replace HP2 := own_below HP2 hb (Nat.le_refl _)
  replace HB := HB.trans (hb.mono HB.size)
  clear hb
  clear egS57
  refine Fw.buildSlice [_] sl26 rfl rfl (by exact Fw.allSz rfl) (by decide) rfl ?_
  intro w15 gS58 egS58 HS58 hb
  have n_gS57_gS58 : gS57 < gS58 := by have := HS57.lt; omega
  have lgS58 : w.heap.size ≤ gS58 := by have := HB.size; omega
  replace HG := HG.low hb
  replace HD := own_below HD hb (Nat.le_refl _)
  replace HP1 := own_below HP1 hb (Nat.le_refl _)
  replace HP2 := own_below HP2 hb (Nat.le_refl _)
  replace HS57 := HS57.low hb
  replace HB := HB.trans (hb.mono HB.size)
  clear hb
  clear egS58
  refine Fw.call cf21 rfl rfl (pathTime_any _ g 3 Rg.g3 HG (by decide) (some ⟨gS57, 0, none⟩) [5, 5] 2 (Fw.rdBlk HS57) (some ⟨gS58, 0, none⟩) [2] 1 (by decide) (Fw.rdBlk HS58) 0 2) ?_
  rintro e_ w16 ⟨rfl, hb⟩
  refine ⟨_, rfl, ?_⟩
  replace HG := HG.low hb
  replace HD := own_below HD hb (Nat.le_refl _)
  replace HP1 := own_below HP1 hb (Nat.le_refl _)
  replace HP2 := own_below HP2 hb (Nat.le_refl _)
  replace HS57 := HS57.low hb
  replace HS58 := HS58.low hb
  replace HB := HB.trans (hb.mono HB.size)
  clear hb
  rw [show Rg.ptime 3 Rg.g3 [5, 5] [2] 0 2 = (0, 13) by decide]
  refine Fw.s (Fw.val_move rfl) rfl ?_
  refine Fw.s (Fw.val_extract rfl rfl) rfl ?_
  refine Fw.s (Fw.val_extract rfl rfl) rfl ?_
  refine Fw.s (Fw.val_assign rfl) rfl ?_
  refine Fw.s (Fw.val_assign rfl) rfl ?_
  refine Fw.nil ?_
  refine hK10 _ _ (Fw.FC.sub (f' := [(15, _), (13, _), (12, _), (11, _), (8, _), (7, _), (6, _), (5, _), (4, _), (3, _), (2, _), (1, _)]) (.cons rfl (.cons rfl (.cons rfl (.cons rfl (.cons rfl (.cons rfl (.cons rfl (.cons rfl (.cons rfl (.cons rfl (.cons rfl (.cons rfl .nil)))))))))))) ?_)
  refine Fw.seq fun _ hK11 => ?_
  refine Fw.region ?_
  refine Fw.s (Fw.val_move rfl) rfl ?_
  refine Fw.s (Fw.val_len Try.underlying25 rfl) rfl ?_
  refine Fw.s (Fw.Val.T (Fw.val_bin rfl rfl Fw.b_eql) (by decide)) rfl ?_
  refine Fw.s (Fw.val_move rfl) rfl ?_
  refine Fw.gT (d := 65) rfl rfl ?_
  refine Fw.s (Fw.val_move rfl) rfl ?_
  refine Fw.gT (d := 65) rfl rfl ?_
  have HC1 := Rg.own_cell HD 0 (by decide)
  refine Fw.s (Fw.val_indexR Try.underlying25 sz2 rfl rfl rfl rfl (show 0 < 3 by decide) (by rw [Fw.add_flat, Nat.zero_add, Nat.mul_one])) rfl ?_
  refine Fw.gT (d := 65) rfl rfl ?_
  refine Fw.ld sc2 rfl (HC1) rfl ?_
  refine Fw.gT (d := 65) rfl rfl ?_
  refine Fw.s (Fw.Val.T (Fw.val_bin rfl rfl Fw.b_eql) (by decide)) rfl ?_
  refine Fw.s (Fw.val_pickT rfl rfl) rfl ?_
  refine Fw.s (Fw.val_move rfl) rfl ?_
  refine Fw.gT (d := 71) rfl rfl ?_
  refine Fw.s (Fw.val_move rfl) rfl ?_
  refine Fw.gT (d := 71) rfl rfl ?_
  have HC2 := Rg.own_cell HD 1 (by decide)
  refine Fw.s (Fw.val_indexR Try.underlying25 sz2 rfl rfl rfl rfl (show 1 < 3 by decide) (by rw [Fw.add_flat, Nat.zero_add, Nat.mul_one])) rfl ?_
  refine Fw.gT (d := 71) rfl rfl ?_
  refine Fw.ld sc2 rfl (HC2) rfl ?_
  refine Fw.gT (d := 71) rfl rfl ?_
  refine Fw.s (Fw.Val.T (Fw.val_bin rfl rfl Fw.b_eql) (by decide)) rfl ?_
  refine Fw.s (Fw.val_pickT rfl rfl) rfl ?_
  refine Fw.s (Fw.val_move rfl) rfl ?_
  refine Fw.gT (d := 77) rfl rfl ?_
  refine Fw.s (Fw.val_move rfl) rfl ?_
  refine Fw.gT (d := 77) rfl rfl ?_
  have HC3 := Rg.own_cell HD 2 (by decide)
  refine Fw.s (Fw.val_indexR Try.underlying25 sz2 rfl rfl rfl rfl (show 2 < 3 by decide) (by rw [Fw.add_flat, Nat.zero_add, Nat.mul_one])) rfl ?_
  refine Fw.gT (d := 77) rfl rfl ?_
  refine Fw.ld sc2 rfl (HC3) rfl ?_
  refine Fw.gT (d := 77) rfl rfl ?_
  refine Fw.s (Fw.Val.T (Fw.val_bin rfl rfl Fw.b_eql) (by decide)) rfl ?_
  refine Fw.s (Fw.val_pickT rfl rfl) rfl ?_
  refine Fw.s (Fw.val_move rfl) rfl ?_
  refine Fw.gT (d := 83) rfl rfl ?_
  refine Fw.s (Fw.val_move rfl) rfl ?_
  refine Fw.gT (d := 83) rfl rfl ?_
  refine Fw.s (Fw.val_len Try.underlying26 rfl) rfl ?_
  refine Fw.gT (d := 83) rfl rfl ?_
  refine Fw.s (Fw.Val.T (Fw.val_bin rfl rfl Fw.b_eql) (by decide)) rfl ?_
  refine Fw.s (Fw.val_pickT rfl rfl) rfl ?_
  refine Fw.s (Fw.val_move rfl) rfl ?_
  refine Fw.gT (d := 88) rfl rfl ?_
  refine Fw.s (Fw.val_move rfl) rfl ?_
  refine Fw.gT (d := 88) rfl rfl ?_
  have HC4 := Rg.own_cellN HP1 0 (by decide)
  refine Fw.s (Fw.val_indexR Try.underlying26 sz3 rfl rfl rfl rfl (show 0 < 1 by decide) (by rw [Fw.add_flat, Nat.zero_add, Nat.mul_one])) rfl ?_
  refine Fw.gT (d := 88) rfl rfl ?_
  refine Fw.ld sc3 rfl (HC4) rfl ?_
  refine Fw.gT (d := 88) rfl rfl ?_
  refine Fw.s (Fw.Val.T (Fw.val_bin rfl rfl Fw.b_eql) (by decide)) rfl ?_
  refine Fw.s (Fw.val_pickT rfl rfl) rfl ?_
  refine Fw.s (Fw.val_move rfl) rfl ?_
  refine Fw.gT (d := 94) rfl rfl ?_
  refine Fw.s (Fw.val_move rfl) rfl ?_
  refine Fw.gT (d := 94) rfl rfl ?_
  refine Fw.s (Fw.Val.T (Fw.val_bin rfl rfl Fw.b_eql) (by decide)) rfl ?_
  refine Fw.s (Fw.val_pickT rfl rfl) rfl ?_
  refine Fw.s (Fw.val_move rfl) rfl ?_
  refine Fw.gT (d := 98) rfl rfl ?_
  refine Fw.s (Fw.val_move rfl) rfl ?_
  refine Fw.s (Fw.val_pickT rfl rfl) rfl ?_
  refine Fw.s (Fw.val_move rfl) rfl ?_
  refine Fw.gT (d := 101) rfl rfl ?_
  refine Fw.s (Fw.val_move rfl) rfl ?_
  refine Fw.gT (d := 101) rfl rfl ?_
  refine Fw.s (Fw.val_len Try.underlying26 rfl) rfl ?_
  refine Fw.gT (d := 101) rfl rfl ?_
  refine Fw.s (Fw.Val.T (Fw.val_bin rfl rfl Fw.b_eql) (by decide)) rfl ?_
  refine Fw.s (Fw.val_pickT rfl rfl) rfl ?_
  refine Fw.s (Fw.val_move rfl) rfl ?_
  refine Fw.gT (d := 106) rfl rfl ?_
  refine Fw.s (Fw.val_move rfl) rfl ?_
  refine Fw.gT (d := 106) rfl rfl ?_
  have HC5 := Rg.own_cellN HP2 0 (by decide)
  refine Fw.s (Fw.val_indexR Try.underlying26 sz3 rfl rfl rfl rfl (show 0 < 2 by decide) (by rw [Fw.add_flat, Nat.zero_add, Nat.mul_one])) rfl ?_
  refine Fw.gT (d := 106) rfl rfl ?_
  refine Fw.ld sc3 rfl (HC5) rfl ?_
  refine Fw.gT (d := 106) rfl rfl ?_
  refine Fw.s (Fw.Val.T (Fw.val_bin rfl rfl Fw.b_eql) (by decide)) rfl ?_
  refine Fw.s (Fw.val_pickT rfl rfl) rfl ?_
  refine Fw.s (Fw.val_move rfl) rfl ?_
  refine Fw.gT (d := 112) rfl rfl ?_
  refine Fw.s (Fw.val_move rfl) rfl ?_
  refine Fw.gT (d := 112) rfl rfl ?_
  have HC6 := Rg.own_cellN HP2 1 (by decide)
  refine Fw.s (Fw.val_indexR Try.underlying26 sz3 rfl rfl rfl rfl (show 1 < 2 by decide) (by rw [Fw.add_flat, Nat.zero_add, Nat.mul_one])) rfl ?_
  refine Fw.gT (d := 112) rfl rfl ?_
  refine Fw.ld sc3 rfl (HC6) rfl ?_
  refine Fw.gT (d := 112) rfl rfl ?_
  refine Fw.s (Fw.Val.T (Fw.val_bin rfl rfl Fw.b_eql) (by decide)) rfl ?_
  refine Fw.s (Fw.val_pickT rfl rfl) rfl ?_
  refine Fw.s (Fw.val_move rfl) rfl ?_
  refine Fw.gT (d := 118) rfl rfl ?_
  refine Fw.s (Fw.val_move rfl) rfl ?_
  refine Fw.gT (d := 118) rfl rfl ?_
  refine Fw.s (Fw.Val.T (Fw.val_bin rfl rfl Fw.b_eql) (by decide)) rfl ?_
  refine Fw.s (Fw.val_pickT rfl rfl) rfl ?_
  refine Fw.s (Fw.val_move rfl) rfl ?_
  refine Fw.gT (d := 122) rfl rfl ?_
  refine Fw.s (Fw.val_move rfl) rfl ?_
  refine Fw.s (Fw.val_pickT rfl rfl) rfl ?_
  refine Fw.s (Fw.val_move rfl) rfl ?_
  refine Fw.gT (d := 125) rfl rfl ?_
  refine Fw.s (Fw.val_move rfl) rfl ?_
  refine Fw.gT (d := 125) rfl rfl ?_
  refine Fw.s (Fw.val_not rfl) rfl ?_
  refine Fw.s (Fw.val_pickT rfl rfl) rfl ?_
  refine Fw.s (Fw.val_move rfl) rfl ?_
  refine Fw.gT (d := 129) rfl rfl ?_
  refine Fw.s (Fw.val_move rfl) rfl ?_
  refine Fw.gT (d := 129) rfl rfl ?_
  refine Fw.s (Fw.Val.T (Fw.val_bin rfl rfl Fw.b_eql) (by decide)) rfl ?_
  refine Fw.s (Fw.val_pickT rfl rfl) rfl ?_
  refine Fw.s (Fw.val_move rfl) rfl ?_
  refine Fw.gT (d := 133) rfl rfl ?_
  refine Fw.s (Fw.val_move rfl) rfl ?_
  refine Fw.gT (d := 133) rfl rfl ?_
  refine Fw.s (Fw.Val.T (Fw.val_bin rfl rfl Fw.b_eql) (by decide)) rfl ?_
  refine Fw.s (Fw.val_pickT rfl rfl) rfl ?_
  refine Fw.s (Fw.val_move rfl) rfl ?_
  refine Fw.gT (d := 137) rfl rfl ?_
  refine Fw.s (Fw.val_move rfl) rfl ?_
  refine Fw.gT (d := 137) rfl rfl ?_
  refine Fw.s (Fw.Val.T (Fw.val_bin rfl rfl Fw.b_eql) (by decide)) rfl ?_
  refine Fw.s (Fw.val_pickT rfl rfl) rfl ?_
  refine Fw.s (Fw.val_move rfl) rfl ?_
  refine Fw.gT (d := 141) rfl rfl ?_
  refine Fw.s (Fw.val_move rfl) rfl ?_
  refine Fw.gT (d := 141) rfl rfl ?_
  refine Fw.buildSlice [_, _, _] sl25 rfl rfl (by exact Fw.allSz rfl) (by decide) rfl ?_
  intro w17 gS143 egS143 HS143 hb
  have lgS143 : w.heap.size ≤ gS143 := by have := HB.size; omega
  clear HC1
  clear HC2
  clear HC3
  clear HC4
  clear HC5
  clear HC6
  replace HG := HG.low hb
  replace HD := own_below HD hb (Nat.le_refl _)
  replace HP1 := own_below HP1 hb (Nat.le_refl _)
  replace HP2 := own_below HP2 hb (Nat.le_refl _)
  replace HB := HB.trans (hb.mono HB.size)
  clear hb
  clear egS143
  refine Fw.gT (d := 141) rfl rfl ?_
  refine Fw.buildSlice [_] sl26 rfl rfl (by exact Fw.allSz rfl) (by decide) rfl ?_
  intro w18 gS144 egS144 HS144 hb
  have n_gS143_gS144 : gS143 < gS144 := by have := HS143.lt; omega
  have lgS144 : w.heap.size ≤ gS144 := by have := HB.size; omega
  replace HG := HG.low hb
  replace HD := own_below HD hb (Nat.le_refl _)
  replace HP1 := own_below HP1 hb (Nat.le_refl _)
  replace HP2 := own_below HP2 hb (Nat.le_refl _)
  replace HS143 := HS143.low hb
  replace HB := HB.trans (hb.mono HB.size)
  clear hb
  clear egS144
  refine Fw.gT (d := 141) rfl rfl ?_
  refine Fw.buildSlice [_, _, _] sl25 rfl rfl (by exact Fw.allSz rfl) (by decide) rfl ?_
  intro w19 gS145 egS145 HS145 hb
  have n_gS143_gS145 : gS143 < gS145 := by have := HS143.lt; omega
  have n_gS144_gS145 : gS144 < gS145 := by have := HS144.lt; omega
  have lgS145 : w.heap.size ≤ gS145 := by have := HB.size; omega
  replace HG := HG.low hb
  replace HD := own_below HD hb (Nat.le_refl _)
  replace HP1 := own_below HP1 hb (Nat.le_refl _)
  replace HP2 := own_below HP2 hb (Nat.le_refl _)
  replace HS143 := HS143.low hb
  replace HS144 := HS144.low hb
  replace HB := HB.trans (hb.mono HB.size)
  clear hb
  clear egS145
  refine Fw.gT (d := 141) rfl rfl ?_
  refine Fw.call cf23 rfl rfl (verify_any _ g 3 Rg.g3 HG (by decide) (by decide) Rg.g3_net.ok (some ⟨gS143, 0, none⟩) [5, 5, 10] 3 (Fw.rdBlk HS143) (some ⟨gS144, 0, none⟩) [0] 1 (by decide) (Fw.rdBlk HS144) (some ⟨gS145, 0, none⟩) [0, 5, 10] 3 (Fw.rdBlk HS145) (by decide)) ?_
  rintro e_ w20 ⟨dl2, rfl, hdl2, hdist2, hb⟩
  refine ⟨_, rfl, ?_⟩
  replace HG := HG.low hb
  replace HD := own_below HD hb (Nat.le_refl _)
  replace HP1 := own_below HP1 hb (Nat.le_refl _)
  replace HP2 := own_below HP2 hb (Nat.le_refl _)
  replace HS143 := HS143.low hb
  replace HS144 := HS144.low hb
  replace HS145 := HS145.low hb
  replace HB := HB.trans (hb.mono HB.size)
  clear hb
  obtain rfl := Rg.g3_from hdl2 hdist2
  clear hdl2 hdist2
  rw [show decide (([0, 5, 10] : List Int) = ([0, 5, 10] : List Int)) = true by decide]
  refine Fw.s (Fw.val_pickT rfl rfl) rfl ?_
  refine Fw.s (Fw.val_move rfl) rfl ?_
  refine Fw.gT (d := 148) rfl rfl ?_
  refine Fw.s (Fw.val_move rfl) rfl ?_
  refine Fw.gT (d := 148) rfl rfl ?_
  refine Fw.buildSlice [_, _, _] sl25 rfl rfl (by exact Fw.allSz rfl) (by decide) rfl ?_
  intro w21 gS150 egS150 HS150 hb
  have n_gS143_gS150 : gS143 < gS150 := by have := HS143.lt; omega
  have n_gS144_gS150 : gS144 < gS150 := by have := HS144.lt; omega
  have n_gS145_gS150 : gS145 < gS150 := by have := HS145.lt; omega
  have lgS150 : w.heap.size ≤ gS150 := by have := HB.size; omega
  replace HG := HG.low hb
  replace HD := own_below HD hb (Nat.le_refl _)
  replace HP1 := own_below HP1 hb (Nat.le_refl _)
  replace HP2 := own_below HP2 hb (Nat.le_refl _)
  replace HS143 := HS143.low hb
  replace HS144 := HS144.low hb
  replace HS145 := HS145.low hb
  replace HB := HB.trans (hb.mono HB.size)
  clear hb
  clear egS150
  refine Fw.gT (d := 148) rfl rfl ?_
  refine Fw.buildSlice [_] sl26 rfl rfl (by exact Fw.allSz rfl) (by decide) rfl ?_
  intro w22 gS151 egS151 HS151 hb
  have n_gS143_gS151 : gS143 < gS151 := by have := HS143.lt; omega
  have n_gS144_gS151 : gS144 < gS151 := by have := HS144.lt; omega
  have n_gS145_gS151 : gS145 < gS151 := by have := HS145.lt; omega
  have n_gS150_gS151 : gS150 < gS151 := by have := HS150.lt; omega
  have lgS151 : w.heap.size ≤ gS151 := by have := HB.size; omega
  replace HG := HG.low hb
  replace HD := own_below HD hb (Nat.le_refl _)
  replace HP1 := own_below HP1 hb (Nat.le_refl _)
  replace HP2 := own_below HP2 hb (Nat.le_refl _)
  replace HS143 := HS143.low hb
  replace HS144 := HS144.low hb
  replace HS145 := HS145.low hb
  replace HS150 := HS150.low hb
  replace HB := HB.trans (hb.mono HB.size)
  clear hb
  clear egS151
  refine Fw.gT (d := 148) rfl rfl ?_
  refine Fw.buildSlice [_, _, _] sl25 rfl rfl (by exact Fw.allSz rfl) (by decide) rfl ?_
  intro w23 gS152 egS152 HS152 hb
  have n_gS143_gS152 : gS143 < gS152 := by have := HS143.lt; omega
  have n_gS144_gS152 : gS144 < gS152 := by have := HS144.lt; omega
  have n_gS145_gS152 : gS145 < gS152 := by have := HS145.lt; omega
  have n_gS150_gS152 : gS150 < gS152 := by have := HS150.lt; omega
  have n_gS151_gS152 : gS151 < gS152 := by have := HS151.lt; omega
  have lgS152 : w.heap.size ≤ gS152 := by have := HB.size; omega
  replace HG := HG.low hb
  replace HD := own_below HD hb (Nat.le_refl _)
  replace HP1 := own_below HP1 hb (Nat.le_refl _)
  replace HP2 := own_below HP2 hb (Nat.le_refl _)
  replace HS143 := HS143.low hb
  replace HS144 := HS144.low hb
  replace HS145 := HS145.low hb
  replace HS150 := HS150.low hb
  replace HS151 := HS151.low hb
  replace HB := HB.trans (hb.mono HB.size)
  clear hb
  clear egS152
  refine Fw.gT (d := 148) rfl rfl ?_
  refine Fw.call cf23 rfl rfl (verify_any _ g 3 Rg.g3 HG (by decide) (by decide) Rg.g3_net.ok (some ⟨gS150, 0, none⟩) [5, 5, 10] 3 (Fw.rdBlk HS150) (some ⟨gS151, 0, none⟩) [0] 1 (by decide) (Fw.rdBlk HS151) (some ⟨gS152, 0, none⟩) [0, 5, 9] 3 (Fw.rdBlk HS152) (by decide)) ?_
  rintro e_ w24 ⟨dl2, rfl, hdl2, hdist2, hb⟩
  refine ⟨_, rfl, ?_⟩
  replace HG := HG.low hb
  replace HD := own_below HD hb (Nat.le_refl _)
  replace HP1 := own_below HP1 hb (Nat.le_refl _)
  replace HP2 := own_below HP2 hb (Nat.le_refl _)
  replace HS143 := HS143.low hb
  replace HS144 := HS144.low hb
  replace HS145 := HS145.low hb
  replace HS150 := HS150.low hb
  replace HS151 := HS151.low hb
  replace HS152 := HS152.low hb
  replace HB := HB.trans (hb.mono HB.size)
  clear hb
  obtain rfl := Rg.g3_from hdl2 hdist2
  clear hdl2 hdist2
  rw [show decide (([0, 5, 9] : List Int) = ([0, 5, 10] : List Int)) = false by decide]
  refine Fw.gT (d := 148) rfl rfl ?_
  refine Fw.s (Fw.val_not rfl) rfl ?_
  refine Fw.s (Fw.val_pickT rfl rfl) rfl ?_
  refine Fw.s (Fw.val_assign rfl) rfl ?_
  refine Fw.nil ?_
  refine hK11 _ _ (Fw.FC.sub (f' := [(0, _)]) (.cons rfl .nil) ?_)
  refine Fw.ret ?_
  refine Fw.ret_ [.tmp 0] [_] Try.results12 (.tmp rfl .nil) ?_
  exact ⟨rfl, HB⟩

end Go.Proofs.Ytenljoccfjlncaa
