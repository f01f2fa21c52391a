/- Layer 9: New. -/
import Derived.Test.YtodhpooddmeghaaRgG
namespace Go.Proofs.Ytodhpooddmeghaa
set_option linter.unusedSimpArgs false
set_option linter.unusedVariables false
open Go.RowKit

set_option maxRecDepth 100000 in
set_option maxHeartbeats 1000000 in
theorem new_any (w : World) (N : Nat) (E : List Rg.Ed) (Ae : Option Addr) (ce : Nat) (hE : Rd w Ae (E.flatMap Rg.Ed.cells)) (hEO : Rg.EOk N E) (hEl : E.length ≤ 16384) (hN : 1 ≤ N ∧ N ≤ 4096) (hT : ∀ e ∈ E, 1 ≤ e.m ∧ (e.m ≤ 1048576 ∨ e.m = 4611686018427387904)) (hAe : ∃ ad, Ae = some ad) : Calls Try.prog 5 #[.int .i64 (N : Int), .slice Ae E.length ce] w fun e_ w' => ∃ g', e_ = .returned (.tuple #[.pointer (some ⟨g', 0, none⟩), .int .i64 0]) ∧ Rg.GT w' g' N E ∧ w.heap.size ≤ g' ∧ Below w.heap.size w w' := by
  refine Fw.calls Try.func5 rfl Try.ntmps5 rfl ?_
  have HB := Below.refl (w.heap.size) w
  refine Fw.seq fun _ hK1 => ?_
  refine Fw.region ?_
  refine Fw.s (Fw.val_assign rfl) rfl ?_
  refine Fw.s (Fw.val_assign rfl) rfl ?_
  refine Fw.nil ?_
  refine hK1 _ _ ?_
  refine Fw.seq fun _ hK2 => ?_
  refine Fw.seq fun _ hK3 => ?_
  refine Fw.region ?_
  refine Fw.s (Fw.val_move rfl) rfl ?_
  refine Fw.s (Fw.Val.F (Fw.val_bin rfl rfl Fw.b_lss) (by omega)) rfl ?_
  refine Fw.s (Fw.val_move rfl) rfl ?_
  refine Fw.gT (d := 10) rfl rfl ?_
  refine Fw.s (Fw.val_move rfl) rfl ?_
  refine Fw.gT (d := 10) rfl rfl ?_
  refine Fw.s (Fw.Val.F (Fw.val_bin rfl rfl Fw.b_gtr) (by omega)) rfl ?_
  refine Fw.s (Fw.val_pickF rfl rfl) rfl ?_
  refine Fw.nil ?_
  refine hK3 _ _ (Fw.FC.sub (f' := [(13, _), (0, _), (1, _)]) (.cons rfl (.cons rfl (.cons rfl .nil))) ?_)
  refine Fw.condF rfl ?_
  refine Fw.skip ?_
  refine hK2 _ _ ?_
  refine Fw.seq fun _ hK4 => ?_
  refine Fw.seq fun _ hK5 => ?_
  refine Fw.region ?_
  refine Fw.s (Fw.val_move rfl) rfl ?_
  refine Fw.s (Fw.val_len Try.underlying30 rfl) rfl ?_
  refine Fw.s (Fw.Val.F (Fw.val_bin rfl rfl Fw.b_gtr) (by omega)) rfl ?_
  refine Fw.nil ?_
  refine hK5 _ _ ?_
  refine Fw.condF rfl ?_
  refine Fw.skip ?_
  refine hK4 _ _ ?_
  refine Fw.seq fun _ hK6 => ?_
  refine Fw.seq fun _ hK7 => ?_
  refine Fw.region ?_
  refine Fw.s (Fw.val_move rfl) rfl ?_
  refine Fw.s (Fw.val_len Try.underlying30 rfl) rfl ?_
  refine Fw.s (Fw.val_move rfl) rfl ?_
  refine Fw.nil ?_
  refine hK7 _ _ ?_
  refine Fw.block ?_
  refine Fw.loop (fun m_ f_ W_ => ∃ (k : Nat), m_ = E.length - k ∧ k ≤ E.length ∧ Below (w.heap.size) w W_ ∧ f_ = [(19, .int .i64 k), (18, .int .i64 E.length), (17, .slice Ae E.length ce), (0, .int .i64 (N : Int)), (1, .slice Ae E.length ce)]) ⟨_, _, ⟨0, rfl, Nat.zero_le _, HB, rfl⟩, (.cons rfl (.cons rfl (.cons rfl (.cons rfl (.cons rfl .nil)))))⟩ ?_
  clear HB
  rintro m8_ _ w1 ⟨k, hm8_, hkl, HB, rfl⟩
  refine Fw.seq fun _ hK9 => ?_
  refine Fw.region ?_
  refine Fw.s2 (Fw.val_bin rfl rfl Fw.b_lss) rfl ?_ ?_
  rintro hlt
  refine Fw.nil ?_
  refine hK9 _ _ ?_
  refine Fw.seq fun _ hK11 => ?_
  refine Fw.condT rfl ?_
  refine Fw.skip ?_
  refine hK11 _ _ ?_
  refine Fw.seq fun _ hK12 => ?_
  refine Fw.block ?_
  refine Fw.seq fun _ hK13 => ?_
  have hkl2 : k < E.length := by omega
  obtain ⟨ae, be_, oe_, hAe2, hadde, HEe⟩ := Fw.rdAt Rg.Ed.len (by decide) hE k hkl2
  have hke := hEO _ (List.getElem_mem hkl2)
  have hkt := hT _ (List.getElem_mem hkl2)
  refine Fw.region ?_
  refine Fw.s (Fw.val_indexR Try.underlying30 sz29 rfl hAe2 rfl rfl hkl2 hadde) rfl ?_
  refine Fw.ldA ag29 rfl ((HEe.low HB)) rfl rfl ?_
  refine Fw.alloc ze29 rfl ?_
  intro w2 ge ege He hb
  have lge : w.heap.size ≤ ge := by have := HB.size; omega
  replace HB := HB.trans (hb.mono HB.size)
  clear hb
  clear ege
  refine Fw.storeW sz29 rfl rfl He rfl rfl (by exact Fw.oneCells rfl) ?_
  intro w3 N_ hc
  replace HB := HB.trans (hc.below (B := w.heap.size) (fun k e => by omega) HB.size)
  clear hc
  clear He
  have He := N_
  clear N_
  replace He : Blk w3 ge 29 #[.int .i64 (E[k].f : Int), .int .i64 (E[k].t : Int), .int .i64 E[k].m] := He
  refine Fw.nil ?_
  refine hK13 _ _ ?_
  refine Fw.seq fun _ hK15 => ?_
  refine Fw.seq fun _ hK16 => ?_
  refine Fw.region ?_
  refine Fw.s (Fw.val_fieldAddr fl29_0 rfl rfl) rfl ?_
  refine Fw.ld sc3 rfl (He.cell 0) rfl ?_
  refine Fw.s (Fw.Val.F (Fw.val_bin rfl rfl Fw.b_lss) (by omega)) rfl ?_
  refine Fw.s (Fw.val_move rfl) rfl ?_
  refine Fw.gT (d := 26) rfl rfl ?_
  refine Fw.s (Fw.val_fieldAddr fl29_0 rfl rfl) rfl ?_
  refine Fw.gT (d := 26) rfl rfl ?_
  refine Fw.ld sc3 rfl (He.cell 0) rfl ?_
  refine Fw.gT (d := 26) rfl rfl ?_
  refine Fw.s (Fw.val_move rfl) rfl ?_
  refine Fw.gT (d := 26) rfl rfl ?_
  refine Fw.s (Fw.Val.F (Fw.val_bin rfl rfl Fw.b_geq) (by omega)) rfl ?_
  refine Fw.s (Fw.val_pickF rfl rfl) rfl ?_
  refine Fw.s (Fw.val_move rfl) rfl ?_
  refine Fw.gT (d := 32) rfl rfl ?_
  refine Fw.s (Fw.val_fieldAddr fl29_1 rfl rfl) rfl ?_
  refine Fw.gT (d := 32) rfl rfl ?_
  refine Fw.ld sc3 rfl (He.cell 1) rfl ?_
  refine Fw.gT (d := 32) rfl rfl ?_
  refine Fw.s (Fw.Val.F (Fw.val_bin rfl rfl Fw.b_lss) (by omega)) rfl ?_
  refine Fw.s (Fw.val_pickF rfl rfl) rfl ?_
  refine Fw.s (Fw.val_move rfl) rfl ?_
  refine Fw.gT (d := 37) rfl rfl ?_
  refine Fw.s (Fw.val_fieldAddr fl29_1 rfl rfl) rfl ?_
  refine Fw.gT (d := 37) rfl rfl ?_
  refine Fw.ld sc3 rfl (He.cell 1) rfl ?_
  refine Fw.gT (d := 37) rfl rfl ?_
  refine Fw.s (Fw.val_move rfl) rfl ?_
  refine Fw.gT (d := 37) rfl rfl ?_
  refine Fw.s (Fw.Val.F (Fw.val_bin rfl rfl Fw.b_geq) (by omega)) rfl ?_
  refine Fw.s (Fw.val_pickF rfl rfl) rfl ?_
  refine Fw.nil ?_
  refine hK16 _ _ (Fw.FC.sub (f' := [(42, _), (41, _), (40, _), (39, _), (38, _), (35, _), (34, _), (33, _), (30, _), (29, _), (28, _), (27, _), (7, _), (19, _), (18, _), (17, _), (0, _), (1, _)]) (.cons rfl (.cons rfl (.cons rfl (.cons rfl (.cons rfl (.cons rfl (.cons rfl (.cons rfl (.cons rfl (.cons rfl (.cons rfl (.cons rfl (.cons rfl (.cons rfl (.cons rfl (.cons rfl (.cons rfl (.cons rfl .nil)))))))))))))))))) ?_)
  refine Fw.condF rfl ?_
  refine Fw.skip ?_
  refine hK15 _ _ ?_
  refine Fw.seq fun _ hK17 => ?_
  refine Fw.region ?_
  refine Fw.s (Fw.val_fieldAddr fl29_2 rfl rfl) rfl ?_
  refine Fw.ld sc2 rfl (He.cell 2) rfl ?_
  refine Fw.s (Fw.Val.F (Fw.val_bin rfl rfl Fw.b_lss) (by omega)) rfl ?_
  refine Fw.s (Fw.val_move rfl) rfl ?_
  refine Fw.gT (d := 46) rfl rfl ?_
  refine Fw.s (Fw.val_fieldAddr fl29_2 rfl rfl) rfl ?_
  refine Fw.gT (d := 46) rfl rfl ?_
  refine Fw.ld sc2 rfl (He.cell 2) rfl ?_
  refine Fw.gT (d := 46) rfl rfl ?_
  refine Fw.s2 (Fw.val_bin rfl rfl Fw.b_gtr) rfl ?_ ?_
  rintro hm
  refine Fw.s (Fw.val_pickF rfl rfl) rfl ?_
  refine Fw.s (Fw.val_move rfl) rfl ?_
  refine Fw.gT (d := 51) rfl rfl ?_
  refine Fw.s (Fw.val_fieldAddr fl29_2 rfl rfl) rfl ?_
  refine Fw.gT (d := 51) rfl rfl ?_
  refine Fw.ld sc2 rfl (He.cell 2) rfl ?_
  refine Fw.gT (d := 51) rfl rfl ?_
  refine Fw.s (Fw.Val.F (Fw.val_bin rfl rfl Fw.b_neq) (by omega)) rfl ?_
  refine Fw.s (Fw.val_pickT rfl rfl) rfl ?_
  refine Fw.nil ?_
  refine hK17 _ _ (Fw.FC.sub (f' := [(55, _), (54, _), (53, _), (52, _), (49, _), (48, _), (47, _), (41, _), (40, _), (39, _), (38, _), (35, _), (34, _), (33, _), (30, _), (29, _), (28, _), (27, _), (19, _), (18, _), (17, _), (0, _), (1, _)]) (.cons rfl (.cons rfl (.cons rfl (.cons rfl (.cons rfl (.cons rfl (.cons rfl (.cons rfl (.cons rfl (.cons rfl (.cons rfl (.cons rfl (.cons rfl (.cons rfl (.cons rfl (.cons rfl (.cons rfl (.cons rfl (.cons rfl (.cons rfl (.cons rfl (.cons rfl (.cons rfl .nil))))))))))))))))))))))) ?_)
  refine Fw.condF rfl ?_
  refine Fw.skip ?_
  refine Fw.X_blockN ?_
  refine hK12 _ _ ?_
  refine Fw.region ?_
  refine Fw.s (Fw.val_bin rfl rfl (Fw.b_add (Fw.i64_ok (by omega)))) rfl ?_
  refine Fw.s (Fw.val_move rfl) rfl ?_
  refine Fw.nil ?_
  refine Fw.roundEnd _ _ (by omega) ⟨k + 1, rfl, by omega, HB, rfl⟩ (.cons rfl (.cons rfl (.cons rfl (.cons rfl (.cons rfl .nil)))))
  rintro hm
  refine Fw.s (Fw.val_pickF rfl rfl) rfl ?_
  refine Fw.s (Fw.val_move rfl) rfl ?_
  refine Fw.gF (d := 51) rfl rfl rfl rfl ?_
  refine Fw.gF (d := 51) rfl rfl rfl rfl ?_
  refine Fw.gF (d := 51) rfl rfl rfl rfl ?_
  refine Fw.s (Fw.val_pickF rfl rfl) rfl ?_
  refine Fw.nil ?_
  refine hK17 _ _ (Fw.FC.sub (f' := [(55, _), (54, _), (53, _), (52, _), (49, _), (48, _), (47, _), (41, _), (40, _), (39, _), (38, _), (35, _), (34, _), (33, _), (30, _), (29, _), (28, _), (27, _), (19, _), (18, _), (17, _), (0, _), (1, _)]) (.cons rfl (.cons rfl (.cons rfl (.cons rfl (.cons rfl (.cons rfl (.cons rfl (.cons rfl (.cons rfl (.cons rfl (.cons rfl (.cons rfl (.cons rfl (.cons rfl (.cons rfl (.cons rfl (.cons rfl (.cons rfl (.cons rfl (.cons rfl (.cons rfl (.cons rfl (.cons rfl .nil))))))))))))))))))))))) ?_)
  refine Fw.condF rfl ?_
  refine Fw.skip ?_
  refine Fw.X_blockN ?_
  refine hK12 _ _ ?_
  refine Fw.region ?_
  refine Fw.s (Fw.val_bin rfl rfl (Fw.b_add (Fw.i64_ok (by omega)))) rfl ?_
  refine Fw.s (Fw.val_move rfl) rfl ?_
  refine Fw.nil ?_
  refine Fw.roundEnd _ _ (by omega) ⟨k + 1, rfl, by omega, HB, rfl⟩ (.cons rfl (.cons rfl (.cons rfl (.cons rfl (.cons rfl .nil)))))
  rintro hlt
  refine Fw.nil ?_
  refine hK9 _ _ ?_
  refine Fw.seq fun _ hK19 => ?_
  refine Fw.condF rfl ?_
  refine Fw.exit ?_
  refine Fw.X_exit ?_
  refine Fw.X_exit ?_
  refine Fw.X_block ?_
  refine hK6 _ _ ?_
  refine Fw.seq fun _ hK20 => ?_
  refine Fw.region ?_
  refine Fw.s (Fw.val_move rfl) rfl ?_
  refine Fw.s (Fw.val_move rfl) rfl ?_
  refine Fw.call cf27 rfl rfl (clone_any _ Ae E ce (hE.low HB) (by omega) hAe) ?_
  rintro e_ w4 ⟨A2, c2, rfl, HK2, hb⟩
  refine ⟨_, rfl, ?_⟩
  replace HB := HB.trans (hb.mono HB.size)
  clear hb
  have hz1 := HB.size
  refine Fw.call cf26 rfl rfl (build_any _ N E A2 c2 (Fw.RdT.own HK2) hEO (by omega) hN.2) ?_
  rintro e_ w5 ⟨g2, rfl, hG2, hg2, hb⟩
  refine ⟨_, rfl, ?_⟩
  replace HK2 := own_below HK2 hb (Nat.le_refl _)
  replace HB := HB.trans (hb.mono HB.size)
  clear hb
  refine Fw.s (Fw.val_assign rfl) rfl ?_
  refine Fw.s (Fw.val_assign rfl) rfl ?_
  refine Fw.nil ?_
  refine hK20 _ _ (Fw.FC.sub (f' := [(5, _), (4, _)]) (.cons rfl (.cons rfl .nil)) ?_)
  refine Fw.ret ?_
  refine Fw.ret_ [.tmp 4, .tmp 5] [_, _] Try.results5 (.tmp rfl (.tmp rfl .nil)) ?_
  exact ⟨g2, rfl, hG2, by omega, HB⟩

end Go.Proofs.Ytodhpooddmeghaa
