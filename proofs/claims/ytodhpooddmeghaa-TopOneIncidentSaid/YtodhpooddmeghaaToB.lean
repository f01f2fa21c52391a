/- A dispatcher and a unit: the law, walked. -/
import Derived.Test.YtodhpooddmeghaaToA
import Derived.Test.YtodhpooddmeghaaCkWalks
namespace Go.Proofs.Ytodhpooddmeghaa
set_option linter.unusedSimpArgs false
set_option linter.unusedVariables false
open Go.RowKit

set_option maxRecDepth 100000 in
set_option maxHeartbeats 4000000 in
theorem tawake_any (w : World) : Calls Try.prog 4 #[] w fun e_ w' => e_ = .returned (.bool true) ∧ w = w' := by
  refine Fw.calls Try.func4 rfl Try.ntmps4 rfl ?_
  refine Fw.seq fun _ hK1 => ?_
  refine Fw.region ?_
  refine Fw.s (Fw.val_assign rfl) rfl ?_
  refine Fw.nil ?_
  refine hK1 _ _ ?_
  refine Fw.seq fun _ hK2 => ?_
  refine Fw.region ?_
  refine Fw.call cf25 rfl rfl (sum_any none [] 0 _ (Rd.nil _ _) (by decide)) ?_
  rintro e_ _ ⟨rfl, rfl⟩
  refine ⟨_, rfl, ?_⟩
  refine Fw.s (Fw.Val.T (Fw.val_bin rfl rfl Fw.b_neq) (by decide)) rfl ?_
  refine Fw.s (Fw.val_assign rfl) rfl ?_
  refine Fw.nil ?_
  refine hK2 _ _ ?_
  refine Fw.ret ?_
  refine Fw.ret_ [.tmp 0] [_] Try.results4 (.tmp rfl .nil) ?_
  exact ⟨rfl, rfl⟩

set_option maxRecDepth 100000 in
set_option maxHeartbeats 4000000 in
theorem topOne_any (w : World) (Al : Option Addr) (l : List Oi.Air) (cl : Nat) (hL : Rd w Al (l.flatMap Oi.Air.cells)) (hb8 : ∀ x ∈ l, (0 ≤ x.k ∧ x.k < 256) ∧ (0 ≤ x.a ∧ x.a < 256)) : Calls Try.prog 3 #[.slice Al l.length cl] w fun e_ w' => e_ = .returned (.bool true) ∧ Below w.heap.size w w' := by
  refine Fw.calls Try.func3 rfl Try.ntmps3 rfl ?_
  have HB := Below.refl (w.heap.size) w
  refine Fw.seq fun _ hK1 => ?_
  refine Fw.region ?_
  refine Fw.s (Fw.val_assign rfl) rfl ?_
  refine Fw.nil ?_
  refine hK1 _ _ ?_
  refine Fw.seq fun _ hK2 => ?_
  refine Fw.seq fun _ hK3 => ?_
  refine Fw.region ?_
  refine Fw.call cf4 rfl rfl (tawake_any _) ?_
  rintro e_ _ ⟨rfl, rfl⟩
  refine ⟨_, rfl, ?_⟩
  refine Fw.s (Fw.val_not rfl) rfl ?_
  refine Fw.nil ?_
  refine hK3 _ _ ?_
  refine Fw.condF rfl ?_
  refine Fw.skip ?_
  refine hK2 _ _ ?_
  refine Fw.seq fun _ hK4 => ?_
  refine Fw.seq fun _ hK5 => ?_
  refine Fw.region ?_
  refine Fw.s (Fw.val_move rfl) rfl ?_
  refine Fw.s (Fw.val_len Try.underlying22 rfl) rfl ?_
  refine Fw.s2 (Fw.val_bin rfl rfl Fw.b_gtr) rfl ?_ ?_
  rintro h120
  refine Fw.nil ?_
  refine hK5 _ _ ?_
  refine Fw.condT rfl ?_
  refine Fw.seq fun _ hK7 => ?_
  refine Fw.region ?_
  refine Fw.s (Fw.val_assign rfl) rfl ?_
  refine Fw.nil ?_
  refine hK7 _ _ (Fw.FC.sub (f' := [(2, _)]) (.cons rfl .nil) ?_)
  refine Fw.ret ?_
  refine Fw.X_ret ?_
  refine Fw.ret_ [.tmp 2] [_] Try.results3 (.tmp rfl .nil) ?_
  exact ⟨rfl, HB⟩
  rintro h120
  refine Fw.nil ?_
  refine hK5 _ _ ?_
  refine Fw.condF rfl ?_
  refine Fw.skip ?_
  refine hK4 _ _ ?_
  refine Fw.seq fun _ hK8 => ?_
  refine Fw.region ?_
  refine Fw.s (Fw.val_build (ps := [(0, _), (1, _), (2, _)]) rfl (bu29_0_1_2 _ _ _)) rfl ?_
  refine Fw.s (Fw.val_build (ps := [(0, _), (1, _), (2, _)]) rfl (bu29_0_1_2 _ _ _)) rfl ?_
  refine Fw.s (Fw.val_build (ps := [(0, _), (1, _), (2, _)]) rfl (bu29_0_1_2 _ _ _)) rfl ?_
  refine Fw.buildSlice [_, _, _] sl30 rfl rfl (by exact Fw.allSz rfl) (by decide) rfl ?_
  intro w1 gS34 egS34 HS34 hb
  have lgS34 : w.heap.size ≤ gS34 := by have := HB.size; omega
  replace HB := HB.trans (hb.mono HB.size)
  clear hb
  clear egS34
  refine Fw.call cf5 rfl rfl (new_any _ 3 Oi.tE (some ⟨gS34, 0, none⟩) 3 (Fw.rdBlk HS34) Oi.t_net.ok (by decide) (by decide) Oi.t_net.m ⟨_, rfl⟩) ?_
  rintro e_ w2 ⟨pg, rfl, HG, hg, hb⟩
  refine ⟨_, rfl, ?_⟩
  replace HS34 := HS34.low hb
  replace HB := HB.trans (hb.mono HB.size)
  clear hb
  clear HS34
  refine Fw.s (Fw.val_move rfl) rfl ?_
  refine Fw.s (Fw.val_extract rfl rfl) rfl ?_
  refine Fw.s (Fw.val_extract rfl rfl) rfl ?_
  refine Fw.s (Fw.val_assign rfl) rfl ?_
  refine Fw.s (Fw.val_assign rfl) rfl ?_
  refine Fw.nil ?_
  refine hK8 _ _ (Fw.FC.sub (f' := [(4, _), (3, _), (0, _)]) (.cons rfl (.cons rfl (.cons rfl .nil))) ?_)
  refine Fw.seq fun _ hK9 => ?_
  refine Fw.seq fun _ hK10 => ?_
  refine Fw.region ?_
  refine Fw.s (Fw.val_move rfl) rfl ?_
  refine Fw.s (Fw.Val.F (Fw.val_bin rfl rfl Fw.b_neq) (by decide)) rfl ?_
  refine Fw.nil ?_
  refine hK10 _ _ ?_
  refine Fw.condF rfl ?_
  refine Fw.skip ?_
  refine hK9 _ _ ?_
  refine Fw.seq fun _ hK11 => ?_
  refine Fw.region ?_
  refine Fw.s (Fw.val_build (ps := [(0, _)]) rfl (bu35_0 _)) rfl ?_
  refine Fw.buildSlice [_] sl36 rfl rfl (by exact Fw.allSz rfl) (by decide) rfl ?_
  intro w3 gS42 egS42 HS42 hb
  have lgS42 : w.heap.size ≤ gS42 := by have := HB.size; omega
  replace HG := HG.low hb
  replace HB := HB.trans (hb.mono HB.size)
  clear hb
  clear egS42
  refine Fw.call cf6 rfl rfl (usNew_any _ (some ⟨gS42, 0, none⟩) [⟨1, 0, 0⟩] 1 (Fw.rdBlk HS42)) ?_
  rintro e_ w4 ⟨x_, rfl, -, hx, hb⟩
  refine ⟨_, rfl, ?_⟩
  have hz2 := HB.size
  replace HG := HG.low hb
  replace HS42 := HS42.low hb
  replace HB := HB.trans (hb.mono HB.size)
  clear hb
  clear HS42
  obtain ⟨cp, cg, rfl, HReg⟩ := hx (by decide)
  obtain ⟨BR, hBR⟩ : ∃ b_, b_ = w3.heap.size := ⟨_, rfl⟩
  rw [← hBR] at HReg
  replace HReg : RegAt w4 BR cp cg 1 [Us.fresh ⟨1, 0, 0⟩ 0] := HReg
  have hcp := HReg.1
  have hcg := HReg.2.1
  refine Fw.s (Fw.val_move rfl) rfl ?_
  refine Fw.s (Fw.val_extract rfl rfl) rfl ?_
  refine Fw.s (Fw.val_extract rfl rfl) rfl ?_
  refine Fw.s (Fw.val_assign rfl) rfl ?_
  refine Fw.s (Fw.val_assign rfl) rfl ?_
  refine Fw.nil ?_
  refine hK11 _ _ (Fw.FC.sub (f' := [(6, _), (5, _), (3, _), (0, _)]) (.cons rfl (.cons rfl (.cons rfl (.cons rfl .nil)))) ?_)
  refine Fw.seq fun _ hK12 => ?_
  refine Fw.region ?_
  refine Fw.s (Fw.val_move rfl) rfl ?_
  refine Fw.call cf7 rfl rfl (newAgent_any _ pg 3 Oi.tE HG 0 0 (by decide) (by decide)) ?_
  rintro e_ w5 ⟨p, pf, rfl, hp, hpf, HAg, hb⟩
  refine ⟨_, rfl, ?_⟩
  have hz3 := HB.size
  replace HG := HG.low hb
  replace HReg := HReg.low hb
  replace HB := HB.trans (hb.mono HB.size)
  clear hb
  replace HAg : AgAt w5 p pf pg 3 Oi.tE 0 (Ag.new 0 0) := HAg
  have hl1 := HAg.lt
  clear HG
  refine Fw.s (Fw.val_move rfl) rfl ?_
  refine Fw.s (Fw.val_extract rfl rfl) rfl ?_
  refine Fw.s (Fw.val_extract rfl rfl) rfl ?_
  refine Fw.s (Fw.val_assign rfl) rfl ?_
  refine Fw.s (Fw.val_assign rfl) rfl ?_
  refine Fw.nil ?_
  refine hK12 _ _ ?_
  refine Fw.seq fun _ hK13 => ?_
  refine Fw.seq fun _ hK14 => ?_
  refine Fw.region ?_
  refine Fw.s (Fw.val_move rfl) rfl ?_
  refine Fw.s (Fw.Val.F (Fw.val_bin rfl rfl Fw.b_neq) (by decide)) rfl ?_
  refine Fw.s (Fw.val_move rfl) rfl ?_
  refine Fw.gT (d := 53) rfl rfl ?_
  refine Fw.s (Fw.val_move rfl) rfl ?_
  refine Fw.gT (d := 53) rfl rfl ?_
  refine Fw.s (Fw.Val.F (Fw.val_bin rfl rfl Fw.b_neq) (by decide)) rfl ?_
  refine Fw.s (Fw.val_pickF rfl rfl) rfl ?_
  refine Fw.s (Fw.val_move rfl) rfl ?_
  refine Fw.gT (d := 57) rfl rfl ?_
  refine Fw.s (Fw.val_move rfl) rfl ?_
  refine Fw.gT (d := 57) rfl rfl ?_
  refine Fw.s (Fw.val_bin rfl rfl (Fw.b_nilP Try.underlying31)) rfl ?_
  refine Fw.s (Fw.val_pickF rfl rfl) rfl ?_
  refine Fw.s (Fw.val_move rfl) rfl ?_
  refine Fw.gT (d := 61) rfl rfl ?_
  refine Fw.s (Fw.val_move rfl) rfl ?_
  refine Fw.gT (d := 61) rfl rfl ?_
  refine Fw.s (Fw.val_bin rfl rfl (Fw.b_nilP Try.underlying37)) rfl ?_
  refine Fw.s (Fw.val_pickF rfl rfl) rfl ?_
  refine Fw.nil ?_
  refine hK14 _ _ (Fw.FC.sub (f' := [(64, _), (7, _), (5, _), (0, _)]) (.cons rfl (.cons rfl (.cons rfl (.cons rfl .nil)))) ?_)
  refine Fw.condF rfl ?_
  refine Fw.skip ?_
  refine hK13 _ _ ?_
  refine Fw.seq fun _ hK15 => ?_
  refine Fw.region ?_
  refine Fw.s (Fw.val_assign rfl) rfl ?_
  refine Fw.s (Fw.val_assign rfl) rfl ?_
  refine Fw.nil ?_
  refine hK15 _ _ ?_
  refine Fw.seq fun _ hK16 => ?_
  refine Fw.region ?_
  refine Fw.s (Fw.val_assign rfl) rfl ?_
  refine Fw.s (Fw.val_assign rfl) rfl ?_
  refine Fw.nil ?_
  refine hK16 _ _ ?_
  refine Fw.seq fun _ hK17 => ?_
  refine Fw.seq fun _ hK18 => ?_
  refine Fw.region ?_
  refine Fw.s (Fw.val_move rfl) rfl ?_
  refine Fw.s (Fw.val_len Try.underlying22 rfl) rfl ?_
  refine Fw.s (Fw.val_move rfl) rfl ?_
  refine Fw.nil ?_
  refine hK18 _ _ ?_
  refine Fw.block ?_
  have HO := BRow.nil w5 w.heap.size
  have HW := BRow.nil w5 w.heap.size
  refine Fw.loop (fun m_ f_ W_ => ∃ (k : Nat) (u : Us.U) (a : Ag) (os : List Or.O) (ws : List Or.S) (nw : Int) (O_ : Option Addr) (oc : Nat) (V_ : Option Addr) (wc : Nat), m_ = l.length - k ∧ k ≤ l.length ∧ Oi.OI (k : Int) u a os ws ∧ Ag.Good 3 Oi.tE 0 a ∧ (0 ≤ nw ∧ nw ≤ 4 * k) ∧ (0 ≤ a.l.q ∧ a.l.q ≤ k) ∧ (os.length ≤ k ∧ ws.length ≤ k) ∧ (∀ g_, O_.map (·.block) = some g_ → V_.map (·.block) = some g_ → False) ∧ RegAt W_ BR cp cg 1 [u] ∧ AgAt W_ p pf pg 3 Oi.tE 0 a ∧ BRow W_ w.heap.size O_ os.length oc (os.map Or.put) ∧ BRow W_ w.heap.size V_ ws.length wc (ws.map Or.say) ∧ Below (w.heap.size) w W_ ∧ f_ = [(67, .int .i64 k), (66, .int .i64 l.length), (65, .slice Al l.length cl), (12, .slice V_ ws.length wc), (11, .slice O_ os.length oc), (10, .int .i64 (k : Int)), (9, .int .i64 nw), (7, .pointer (some ⟨p, 0, none⟩)), (5, .pointer (some ⟨cp, 0, none⟩))]) ⟨_, _, ⟨0, _, _, [], [], 0, none, 0, none, 0, rfl, Nat.zero_le _, Oi.OI.start ⟨1, 0, 0⟩ 0, Ag.Good.new Oi.t_net (by decide), by omega, ⟨Int.le_refl _, Int.le_refl _⟩, ⟨Nat.le_refl _, Nat.le_refl _⟩, (fun _ e_ _ => by cases e_), HReg, HAg, HO, HW, HB, rfl⟩, (.cons rfl (.cons rfl (.cons rfl (.cons rfl (.cons rfl (.cons rfl (.cons rfl (.cons rfl (.cons rfl .nil)))))))))⟩ ?_
  clear HReg HAg HO HW HB
  rintro m19_ _ w6 ⟨k, u, a, os, ws, nw, O_, oc, V_, wc, hm19_, hkl, hoi, hga, hnw, hq, hln, hdj, HReg, HAg, HO, HW, HB, rfl⟩
  refine Fw.seq fun _ hK20 => ?_
  refine Fw.region ?_
  refine Fw.s2 (Fw.val_bin rfl rfl Fw.b_lss) rfl ?_ ?_
  rintro hlt
  refine Fw.nil ?_
  refine hK20 _ _ ?_
  refine Fw.seq fun _ hK22 => ?_
  refine Fw.condT rfl ?_
  refine Fw.skip ?_
  refine hK22 _ _ ?_
  refine Fw.seq fun _ hK23 => ?_
  refine Fw.block ?_
  refine Fw.seq fun _ hK24 => ?_
  have hk : k < l.length := by omega
  obtain ⟨ad, b_, o_, hA, hadd, HLe⟩ := Fw.rdAt Oi.Air.len (by decide) hL k hk
  have hx8 := hb8 _ (List.getElem_mem hk)
  have hl1 := HAg.lt
  have hl2 := HReg.lt
  refine Fw.region ?_
  refine Fw.s (Fw.val_indexR Try.underlying22 sz42 rfl hA rfl rfl hk hadd) rfl ?_
  refine Fw.ldA ag42 rfl ((HLe.low HB)) rfl rfl ?_
  refine Fw.alloc ze42 rfl ?_
  intro w7 gx egx Hx hb
  have lgx : w.heap.size ≤ gx := by have := HB.size; omega
  replace HReg := HReg.low hb
  replace HAg := HAg.low hb
  replace HO := HO.low hb
  replace HW := HW.low hb
  replace HB := HB.trans (hb.mono HB.size)
  clear hb
  clear egx
  refine Fw.storeW sz42 rfl rfl Hx rfl rfl (by exact Fw.oneCells rfl) ?_
  intro w8 N_ hc
  have hk_ := (Fw.Kp.refl [42] _).one hc Hx rfl
  replace HReg := HReg.kp hk_ rfl rfl
  replace HAg := HAg.kpx hk_ rfl rfl rfl rfl rfl rfl
  replace HO := HO.kp hk_ rfl rfl
  replace HW := HW.kp hk_ rfl rfl
  replace HB := HB.trans (hc.below (B := w.heap.size) (fun k e => by omega) HB.size)
  clear hc hk_
  clear Hx
  have Hx := N_
  clear N_
  replace Hx : Blk w8 gx 42 #[.int .u8 l[k].k, .int .u8 l[k].a] := Hx
  refine Fw.nil ?_
  refine hK24 _ _ ?_
  refine Fw.seq fun _ hK26 => ?_
  refine Fw.region ?_
  refine Fw.s (Fw.val_move rfl) rfl ?_
  refine Fw.s (Fw.val_bin rfl rfl (Fw.b_add (Fw.i64_ok (by omega)))) rfl ?_
  refine Fw.s (Fw.val_assign rfl) rfl ?_
  refine Fw.nil ?_
  refine hK26 _ _ ?_
  refine Fw.seq_cutE (α := Us.U × Ag × List Or.O × List Or.S × Int × Option Addr × Nat × Option Addr × Nat) (fun x_ => match x_ with | ⟨u2, a2, os2, ws2, nw2, O2, oc2, W2, wc2⟩ => [(5, .pointer (some ⟨cp, 0, none⟩)), (7, .pointer (some ⟨p, 0, none⟩)), (9, .int .i64 nw2), (10, .int .i64 ((k : Int) + 1)), (11, .slice O2 os2.length oc2), (12, .slice W2 ws2.length wc2), (65, .slice Al l.length cl), (66, .int .i64 l.length), (67, .int .i64 k)]) (fun x_ W_ => match x_ with | ⟨u2, a2, os2, ws2, nw2, O2, oc2, W2, wc2⟩ => RegAt W_ BR cp cg 1 [u2] ∧ AgAt W_ p pf pg 3 Oi.tE 0 a2 ∧ BRow W_ w.heap.size O2 os2.length oc2 (os2.map Or.put) ∧ BRow W_ w.heap.size W2 ws2.length wc2 (ws2.map Or.say) ∧ Oi.OI ((k : Int) + 1) u2 a2 os2 ws2 ∧ Ag.Good 3 Oi.tE 0 a2 ∧ (0 ≤ nw2 ∧ nw2 ≤ 4 * ((k : Int) + 1)) ∧ (0 ≤ a2.l.q ∧ a2.l.q ≤ (k : Int) + 1) ∧ (os2.length ≤ k + 1 ∧ ws2.length ≤ k + 1) ∧ (∀ g_, O2.map (·.block) = some g_ → W2.map (·.block) = some g_ → False) ∧ Below (w.heap.size) w W_) ?_ (fun _ hK27 => ?_)
  rintro ⟨u2, a2, os2, ws2, nw2, O2, oc2, W2, wc2⟩ w9 ⟨HReg, HAg, HO, HW, hoi2, hga2, hnw2, hq2, hln2, hdj2, HB⟩
  show Fw.FC _ _ _ _ _ [(5, .pointer (some ⟨cp, 0, none⟩)), (7, .pointer (some ⟨p, 0, none⟩)), (9, .int .i64 nw2), (10, .int .i64 ((k : Int) + 1)), (11, .slice O2 os2.length oc2), (12, .slice W2 ws2.length wc2), (65, .slice Al l.length cl), (66, .int .i64 l.length), (67, .int .i64 k)] _
  refine Fw.seq fun _ hK28 => ?_
  refine Fw.region ?_
  refine Fw.s (Fw.val_move rfl) rfl ?_
  refine Fw.call cf23 rfl rfl (by have this := unit_any w9 BR cp cg 1 [u2] 0 HReg; rw [Oi.unit1] at this; exact this) ?_
  rintro e_ w10 ⟨rfl, hb⟩
  refine ⟨_, rfl, ?_⟩
  replace HReg := HReg.low hb
  replace HAg := HAg.low hb
  replace HO := HO.low hb
  replace HW := HW.low hb
  replace HB := HB.trans (hb.mono HB.size)
  clear hb
  refine Fw.s (Fw.val_move rfl) rfl ?_
  refine Fw.s (Fw.val_extract rfl rfl) rfl ?_
  refine Fw.s (Fw.val_extract rfl rfl) rfl ?_
  refine Fw.alloc ze69 rfl ?_
  intro w11 gun egun Hun hb
  have lgun : w.heap.size ≤ gun := by have := HB.size; omega
  replace HReg := HReg.low hb
  replace HAg := HAg.low hb
  replace HO := HO.low hb
  replace HW := HW.low hb
  replace HB := HB.trans (hb.mono HB.size)
  clear hb
  clear egun
  refine Fw.storeW sz69 rfl rfl Hun rfl rfl (by exact Fw.oneCells rfl) ?_
  intro w12 N_ hc
  have hk_ := (Fw.Kp.refl [69] _).one hc Hun rfl
  replace HReg := HReg.kp hk_ rfl rfl
  replace HAg := HAg.kpx hk_ rfl rfl rfl rfl rfl rfl
  replace HO := HO.kp hk_ rfl rfl
  replace HW := HW.kp hk_ rfl rfl
  replace HB := HB.trans (hc.below (B := w.heap.size) (fun k e => by omega) HB.size)
  clear hc hk_
  clear Hun
  have Hun := N_
  clear N_
  replace Hun : Blk w12 gun 69 #[.int .i64 u2.id, .int .i64 u2.kind, .int .i64 u2.home, .int .i64 u2.state, .int .i64 u2.node, .int .i64 u2.seq, .int .i64 u2.heard, .int .i64 u2.inc, .int .i64 u2.ep, .int .i64 u2.ack] := Hun
  refine Fw.s (Fw.val_assign rfl) rfl ?_
  refine Fw.nil ?_
  refine hK28 _ _ ?_
  refine Fw.seq fun _ hK29 => ?_
  refine Fw.seq fun _ hK30 => ?_
  refine Fw.region ?_
  refine Fw.s (Fw.val_move rfl) rfl ?_
  refine Fw.bT (by rfl) ?_
  refine Fw.s (Fw.val_not rfl) rfl ?_
  refine Fw.nil ?_
  refine hK30 _ _ (Fw.FC.sub (f' := [(207, _), (23, _), (5, _), (7, _), (9, _), (10, _), (11, _), (12, _), (65, _), (66, _), (67, _)]) (.cons rfl (.cons rfl (.cons rfl (.cons rfl (.cons rfl (.cons rfl (.cons rfl (.cons rfl (.cons rfl (.cons rfl (.cons rfl .nil))))))))))) ?_)
  refine Fw.condF rfl ?_
  refine Fw.skip ?_
  refine hK29 _ _ ?_
  refine Fw.seq fun _ hK31 => ?_
  refine Fw.seq fun _ hK32 => ?_
  refine Fw.regionQ (by kernel_rfl) (by kernel_rfl) ?_
  refine Fw.q (Fw.val_fieldAddr fl69_7 rfl rfl) rfl ?_
  refine Fw.ldQ sc2 rfl (Hun.cell 7) rfl ?_
  refine Fw.q2 (Fw.val_bin rfl rfl Fw.b_neq) rfl ?_ ?_
  rintro i1
  refine Fw.q (Fw.val_move rfl) rfl ?_
  refine Fw.gTQ (d := 211) rfl rfl ?_
  refine Fw.q (Fw.val_move rfl) rfl ?_
  refine Fw.gTQ (d := 211) rfl rfl ?_
  refine Fw.callQ cf24 rfl rfl (fun w_ hb_ => agIncident_any _ p pf pg 3 Oi.tE 0 a2 (HAg.low hb_)) (fun _ _ _ h => ⟨h.1, h.2 ▸ Below.refl _ _⟩) ?_
  refine Fw.gTQ (d := 211) rfl rfl ?_
  refine Fw.q2 (Fw.val_bin rfl rfl Fw.b_neq) rfl ?_ ?_
  rintro i2
  refine Fw.q (Fw.val_pickT rfl rfl) rfl ?_
  refine Fw.q (Fw.val_move rfl) rfl ?_
  refine Fw.gTQ (d := 216) rfl rfl ?_
  refine Fw.q (Fw.val_move rfl) rfl ?_
  refine Fw.gTQ (d := 216) rfl rfl ?_
  refine Fw.callQ cf24 rfl rfl (fun w_ hb_ => agIncident_any _ p pf pg 3 Oi.tE 0 a2 (HAg.low hb_)) (fun _ _ _ h => ⟨h.1, h.2 ▸ Below.refl _ _⟩) ?_
  refine Fw.gTQ (d := 216) rfl rfl ?_
  refine Fw.q (Fw.val_fieldAddr fl69_7 rfl rfl) rfl ?_
  refine Fw.gTQ (d := 216) rfl rfl ?_
  refine Fw.ldQ sc2 rfl (Hun.cell 7) rfl ?_
  refine Fw.gTQ (d := 216) rfl rfl ?_
  refine Fw.q (Fw.Val.F (Fw.val_bin rfl rfl Fw.b_neq) (by exact fun h_ => hoi2.one ⟨i1, i2, h_⟩)) rfl ?_
  refine Fw.q (Fw.val_pickT rfl rfl) rfl ?_
  refine Fw.nilQ ?_
  intro w13 hb
  replace HReg := HReg.low hb
  replace HAg := HAg.low hb
  replace HO := HO.low hb
  replace HW := HW.low hb
  replace Hun := Hun.low hb
  replace HB := HB.trans (hb.mono HB.size)
  clear hb
  refine hK32 _ _ (Fw.FC.sub (f' := [(222, _), (221, _), (220, _), (219, _), (218, _), (217, _), (214, _), (213, _), (212, _), (23, _), (5, _), (7, _), (9, _), (10, _), (11, _), (12, _), (65, _), (66, _), (67, _)]) (.cons rfl (.cons rfl (.cons rfl (.cons rfl (.cons rfl (.cons rfl (.cons rfl (.cons rfl (.cons rfl (.cons rfl (.cons rfl (.cons rfl (.cons rfl (.cons rfl (.cons rfl (.cons rfl (.cons rfl (.cons rfl (.cons rfl .nil))))))))))))))))))) ?_)
  refine Fw.condF rfl ?_
  refine Fw.skip ?_
  refine hK31 _ _ ?_
  refine Fw.seq fun _ hK35 => ?_
  refine Fw.region ?_
  refine Fw.s (Fw.val_fieldAddr fl69_3 rfl rfl) rfl ?_
  refine Fw.ld sc3 rfl (Hun.cell 3) rfl ?_
  refine Fw.s2 (Fw.val_bin rfl rfl Fw.b_eql) rfl ?_ ?_
  rintro f1
  refine Fw.s (Fw.val_move rfl) rfl ?_
  refine Fw.gT (d := 226) rfl rfl ?_
  refine Fw.s (Fw.val_fieldAddr fl69_7 rfl rfl) rfl ?_
  refine Fw.gT (d := 226) rfl rfl ?_
  refine Fw.ld sc2 rfl (Hun.cell 7) rfl ?_
  refine Fw.gT (d := 226) rfl rfl ?_
  refine Fw.s (Fw.Val.F (Fw.val_bin rfl rfl Fw.b_neq) (by exact fun h_ => hoi2.two ⟨f1, .inl h_⟩)) rfl ?_
  refine Fw.gT (d := 226) rfl rfl ?_
  refine Fw.s (Fw.val_move rfl) rfl ?_
  refine Fw.gT (d := 230) rfl rfl ?_
  refine Fw.s (Fw.val_move rfl) rfl ?_
  refine Fw.gT (d := 230) rfl rfl ?_
  refine Fw.call cf24 rfl rfl (agIncident_any _ p pf pg 3 Oi.tE 0 a2 HAg) ?_
  rintro e_ _ ⟨rfl, rfl⟩
  refine ⟨_, rfl, ?_⟩
  refine Fw.gT (d := 230) rfl rfl ?_
  refine Fw.s (Fw.Val.F (Fw.val_bin rfl rfl Fw.b_neq) (by exact fun h_ => hoi2.two ⟨f1, .inr (.inl h_)⟩)) rfl ?_
  refine Fw.gT (d := 226) rfl rfl ?_
  refine Fw.s (Fw.val_pickF rfl rfl) rfl ?_
  refine Fw.gT (d := 226) rfl rfl ?_
  refine Fw.s (Fw.val_move rfl) rfl ?_
  refine Fw.gT (d := 235) rfl rfl ?_
  refine Fw.s (Fw.val_fieldAddr fl69_9 rfl rfl) rfl ?_
  refine Fw.gT (d := 235) rfl rfl ?_
  refine Fw.ld sc2 rfl (Hun.cell 9) rfl ?_
  refine Fw.gT (d := 235) rfl rfl ?_
  refine Fw.s (Fw.val_fieldAddr fl69_8 rfl rfl) rfl ?_
  refine Fw.gT (d := 235) rfl rfl ?_
  refine Fw.ld sc2 rfl (Hun.cell 8) rfl ?_
  refine Fw.gT (d := 235) rfl rfl ?_
  refine Fw.s (Fw.Val.F (Fw.val_bin rfl rfl Fw.b_neq) (by exact fun h_ => hoi2.two ⟨f1, .inr (.inr h_)⟩)) rfl ?_
  refine Fw.gT (d := 226) rfl rfl ?_
  refine Fw.s (Fw.val_pickF rfl rfl) rfl ?_
  refine Fw.s (Fw.val_pickT rfl rfl) rfl ?_
  refine Fw.nil ?_
  refine hK35 _ _ ?_
  refine Fw.condF rfl ?_
  refine Fw.skip ?_
  refine Fw.X_blockN ?_
  refine hK23 _ _ (Fw.FC.sub (f' := [(241, _), (240, _), (239, _), (238, _), (237, _), (236, _), (235, _), (234, _), (233, _), (232, _), (231, _), (230, _), (229, _), (228, _), (227, _), (221, _), (220, _), (219, _), (218, _), (217, _), (214, _), (213, _), (212, _), (5, _), (7, _), (9, _), (10, _), (11, _), (12, _), (65, _), (66, _), (67, _)]) (.cons rfl (.cons rfl (.cons rfl (.cons rfl (.cons rfl (.cons rfl (.cons rfl (.cons rfl (.cons rfl (.cons rfl (.cons rfl (.cons rfl (.cons rfl (.cons rfl (.cons rfl (.cons rfl (.cons rfl (.cons rfl (.cons rfl (.cons rfl (.cons rfl (.cons rfl (.cons rfl (.cons rfl (.cons rfl (.cons rfl (.cons rfl (.cons rfl (.cons rfl (.cons rfl (.cons rfl (.cons rfl .nil)))))))))))))))))))))))))))))))) ?_)
  refine Fw.region ?_
  refine Fw.s (Fw.val_bin rfl rfl (Fw.b_add (Fw.i64_ok (by omega)))) rfl ?_
  refine Fw.s (Fw.val_move rfl) rfl ?_
  refine Fw.nil ?_
  refine Fw.roundEnd _ _ (by omega) ⟨k + 1, u2, a2, os2, ws2, nw2, O2, oc2, W2, wc2, rfl, by omega, hoi2, hga2, by omega, by omega, by omega, hdj2, HReg, HAg, HO, HW, HB, rfl⟩ (.cons rfl (.cons rfl (.cons rfl (.cons rfl (.cons rfl (.cons rfl (.cons rfl (.cons rfl (.cons rfl .nil)))))))))
  rintro f1
  refine Fw.s (Fw.val_move rfl) rfl ?_
  refine Fw.gF (d := 226) rfl rfl rfl rfl ?_
  refine Fw.gF (d := 226) rfl rfl rfl rfl ?_
  refine Fw.gF (d := 226) rfl rfl rfl rfl ?_
  refine Fw.gF (d := 226) rfl rfl rfl rfl ?_
  refine Fw.gU (d := 230) rfl rfl rfl ?_
  refine Fw.gU (d := 230) rfl rfl rfl ?_
  refine Fw.gU (d := 230) rfl rfl rfl ?_
  refine Fw.gF (d := 226) rfl rfl rfl rfl ?_
  refine Fw.gF (d := 226) rfl rfl rfl rfl ?_
  refine Fw.gU (d := 235) rfl rfl rfl ?_
  refine Fw.gU (d := 235) rfl rfl rfl ?_
  refine Fw.gU (d := 235) rfl rfl rfl ?_
  refine Fw.gU (d := 235) rfl rfl rfl ?_
  refine Fw.gU (d := 235) rfl rfl rfl ?_
  refine Fw.gF (d := 226) rfl rfl rfl rfl ?_
  refine Fw.s (Fw.val_pickF rfl rfl) rfl ?_
  refine Fw.nil ?_
  refine hK35 _ _ ?_
  refine Fw.condF rfl ?_
  refine Fw.skip ?_
  refine Fw.X_blockN ?_
  refine hK23 _ _ (Fw.FC.sub (f' := [(241, _), (240, _), (239, _), (238, _), (237, _), (236, _), (235, _), (234, _), (233, _), (232, _), (231, _), (230, _), (229, _), (228, _), (227, _), (221, _), (220, _), (219, _), (218, _), (217, _), (214, _), (213, _), (212, _), (5, _), (7, _), (9, _), (10, _), (11, _), (12, _), (65, _), (66, _), (67, _)]) (.cons rfl (.cons rfl (.cons rfl (.cons rfl (.cons rfl (.cons rfl (.cons rfl (.cons rfl (.cons rfl (.cons rfl (.cons rfl (.cons rfl (.cons rfl (.cons rfl (.cons rfl (.cons rfl (.cons rfl (.cons rfl (.cons rfl (.cons rfl (.cons rfl (.cons rfl (.cons rfl (.cons rfl (.cons rfl (.cons rfl (.cons rfl (.cons rfl (.cons rfl (.cons rfl (.cons rfl (.cons rfl .nil)))))))))))))))))))))))))))))))) ?_)
  refine Fw.region ?_
  refine Fw.s (Fw.val_bin rfl rfl (Fw.b_add (Fw.i64_ok (by omega)))) rfl ?_
  refine Fw.s (Fw.val_move rfl) rfl ?_
  refine Fw.nil ?_
  refine Fw.roundEnd _ _ (by omega) ⟨k + 1, u2, a2, os2, ws2, nw2, O2, oc2, W2, wc2, rfl, by omega, hoi2, hga2, by omega, by omega, by omega, hdj2, HReg, HAg, HO, HW, HB, rfl⟩ (.cons rfl (.cons rfl (.cons rfl (.cons rfl (.cons rfl (.cons rfl (.cons rfl (.cons rfl (.cons rfl .nil)))))))))
  rintro i2
  refine Fw.q (Fw.val_pickT rfl rfl) rfl ?_
  refine Fw.q (Fw.val_move rfl) rfl ?_
  refine Fw.gFQ (d := 216) rfl rfl rfl rfl ?_
  refine Fw.gFQ (d := 216) rfl rfl rfl rfl ?_
  refine Fw.gFQ (d := 216) rfl rfl rfl rfl ?_
  refine Fw.gFQ (d := 216) rfl rfl rfl rfl ?_
  refine Fw.gFQ (d := 216) rfl rfl rfl rfl ?_
  refine Fw.q (Fw.val_pickF rfl rfl) rfl ?_
  refine Fw.nilQ ?_
  intro w14 hb
  replace HReg := HReg.low hb
  replace HAg := HAg.low hb
  replace HO := HO.low hb
  replace HW := HW.low hb
  replace Hun := Hun.low hb
  replace HB := HB.trans (hb.mono HB.size)
  clear hb
  refine hK32 _ _ (Fw.FC.sub (f' := [(222, _), (221, _), (220, _), (219, _), (218, _), (217, _), (214, _), (213, _), (212, _), (23, _), (5, _), (7, _), (9, _), (10, _), (11, _), (12, _), (65, _), (66, _), (67, _)]) (.cons rfl (.cons rfl (.cons rfl (.cons rfl (.cons rfl (.cons rfl (.cons rfl (.cons rfl (.cons rfl (.cons rfl (.cons rfl (.cons rfl (.cons rfl (.cons rfl (.cons rfl (.cons rfl (.cons rfl (.cons rfl (.cons rfl .nil))))))))))))))))))) ?_)
  refine Fw.condF rfl ?_
  refine Fw.skip ?_
  refine hK31 _ _ ?_
  refine Fw.seq fun _ hK37 => ?_
  refine Fw.region ?_
  refine Fw.s (Fw.val_fieldAddr fl69_3 rfl rfl) rfl ?_
  refine Fw.ld sc3 rfl (Hun.cell 3) rfl ?_
  refine Fw.s2 (Fw.val_bin rfl rfl Fw.b_eql) rfl ?_ ?_
  rintro f1
  refine Fw.s (Fw.val_move rfl) rfl ?_
  refine Fw.gT (d := 226) rfl rfl ?_
  refine Fw.s (Fw.val_fieldAddr fl69_7 rfl rfl) rfl ?_
  refine Fw.gT (d := 226) rfl rfl ?_
  refine Fw.ld sc2 rfl (Hun.cell 7) rfl ?_
  refine Fw.gT (d := 226) rfl rfl ?_
  refine Fw.s (Fw.Val.F (Fw.val_bin rfl rfl Fw.b_neq) (by exact fun h_ => hoi2.two ⟨f1, .inl h_⟩)) rfl ?_
  refine Fw.gT (d := 226) rfl rfl ?_
  refine Fw.s (Fw.val_move rfl) rfl ?_
  refine Fw.gT (d := 230) rfl rfl ?_
  refine Fw.s (Fw.val_move rfl) rfl ?_
  refine Fw.gT (d := 230) rfl rfl ?_
  refine Fw.call cf24 rfl rfl (agIncident_any _ p pf pg 3 Oi.tE 0 a2 HAg) ?_
  rintro e_ _ ⟨rfl, rfl⟩
  refine ⟨_, rfl, ?_⟩
  refine Fw.gT (d := 230) rfl rfl ?_
  refine Fw.s (Fw.Val.F (Fw.val_bin rfl rfl Fw.b_neq) (by exact fun h_ => hoi2.two ⟨f1, .inr (.inl h_)⟩)) rfl ?_
  refine Fw.gT (d := 226) rfl rfl ?_
  refine Fw.s (Fw.val_pickF rfl rfl) rfl ?_
  refine Fw.gT (d := 226) rfl rfl ?_
  refine Fw.s (Fw.val_move rfl) rfl ?_
  refine Fw.gT (d := 235) rfl rfl ?_
  refine Fw.s (Fw.val_fieldAddr fl69_9 rfl rfl) rfl ?_
  refine Fw.gT (d := 235) rfl rfl ?_
  refine Fw.ld sc2 rfl (Hun.cell 9) rfl ?_
  refine Fw.gT (d := 235) rfl rfl ?_
  refine Fw.s (Fw.val_fieldAddr fl69_8 rfl rfl) rfl ?_
  refine Fw.gT (d := 235) rfl rfl ?_
  refine Fw.ld sc2 rfl (Hun.cell 8) rfl ?_
  refine Fw.gT (d := 235) rfl rfl ?_
  refine Fw.s (Fw.Val.F (Fw.val_bin rfl rfl Fw.b_neq) (by exact fun h_ => hoi2.two ⟨f1, .inr (.inr h_)⟩)) rfl ?_
  refine Fw.gT (d := 226) rfl rfl ?_
  refine Fw.s (Fw.val_pickF rfl rfl) rfl ?_
  refine Fw.s (Fw.val_pickT rfl rfl) rfl ?_
  refine Fw.nil ?_
  refine hK37 _ _ ?_
  refine Fw.condF rfl ?_
  refine Fw.skip ?_
  refine Fw.X_blockN ?_
  refine hK23 _ _ (Fw.FC.sub (f' := [(241, _), (240, _), (239, _), (238, _), (237, _), (236, _), (235, _), (234, _), (233, _), (232, _), (231, _), (230, _), (229, _), (228, _), (227, _), (221, _), (220, _), (219, _), (218, _), (217, _), (214, _), (213, _), (212, _), (5, _), (7, _), (9, _), (10, _), (11, _), (12, _), (65, _), (66, _), (67, _)]) (.cons rfl (.cons rfl (.cons rfl (.cons rfl (.cons rfl (.cons rfl (.cons rfl (.cons rfl (.cons rfl (.cons rfl (.cons rfl (.cons rfl (.cons rfl (.cons rfl (.cons rfl (.cons rfl (.cons rfl (.cons rfl (.cons rfl (.cons rfl (.cons rfl (.cons rfl (.cons rfl (.cons rfl (.cons rfl (.cons rfl (.cons rfl (.cons rfl (.cons rfl (.cons rfl (.cons rfl (.cons rfl .nil)))))))))))))))))))))))))))))))) ?_)
  refine Fw.region ?_
  refine Fw.s (Fw.val_bin rfl rfl (Fw.b_add (Fw.i64_ok (by omega)))) rfl ?_
  refine Fw.s (Fw.val_move rfl) rfl ?_
  refine Fw.nil ?_
  refine Fw.roundEnd _ _ (by omega) ⟨k + 1, u2, a2, os2, ws2, nw2, O2, oc2, W2, wc2, rfl, by omega, hoi2, hga2, by omega, by omega, by omega, hdj2, HReg, HAg, HO, HW, HB, rfl⟩ (.cons rfl (.cons rfl (.cons rfl (.cons rfl (.cons rfl (.cons rfl (.cons rfl (.cons rfl (.cons rfl .nil)))))))))
  rintro f1
  refine Fw.s (Fw.val_move rfl) rfl ?_
  refine Fw.gF (d := 226) rfl rfl rfl rfl ?_
  refine Fw.gF (d := 226) rfl rfl rfl rfl ?_
  refine Fw.gF (d := 226) rfl rfl rfl rfl ?_
  refine Fw.gF (d := 226) rfl rfl rfl rfl ?_
  refine Fw.gU (d := 230) rfl rfl rfl ?_
  refine Fw.gU (d := 230) rfl rfl rfl ?_
  refine Fw.gU (d := 230) rfl rfl rfl ?_
  refine Fw.gF (d := 226) rfl rfl rfl rfl ?_
  refine Fw.gF (d := 226) rfl rfl rfl rfl ?_
  refine Fw.gU (d := 235) rfl rfl rfl ?_
  refine Fw.gU (d := 235) rfl rfl rfl ?_
  refine Fw.gU (d := 235) rfl rfl rfl ?_
  refine Fw.gU (d := 235) rfl rfl rfl ?_
  refine Fw.gU (d := 235) rfl rfl rfl ?_
  refine Fw.gF (d := 226) rfl rfl rfl rfl ?_
  refine Fw.s (Fw.val_pickF rfl rfl) rfl ?_
  refine Fw.nil ?_
  refine hK37 _ _ ?_
  refine Fw.condF rfl ?_
  refine Fw.skip ?_
  refine Fw.X_blockN ?_
  refine hK23 _ _ (Fw.FC.sub (f' := [(241, _), (240, _), (239, _), (238, _), (237, _), (236, _), (235, _), (234, _), (233, _), (232, _), (231, _), (230, _), (229, _), (228, _), (227, _), (221, _), (220, _), (219, _), (218, _), (217, _), (214, _), (213, _), (212, _), (5, _), (7, _), (9, _), (10, _), (11, _), (12, _), (65, _), (66, _), (67, _)]) (.cons rfl (.cons rfl (.cons rfl (.cons rfl (.cons rfl (.cons rfl (.cons rfl (.cons rfl (.cons rfl (.cons rfl (.cons rfl (.cons rfl (.cons rfl (.cons rfl (.cons rfl (.cons rfl (.cons rfl (.cons rfl (.cons rfl (.cons rfl (.cons rfl (.cons rfl (.cons rfl (.cons rfl (.cons rfl (.cons rfl (.cons rfl (.cons rfl (.cons rfl (.cons rfl (.cons rfl (.cons rfl .nil)))))))))))))))))))))))))))))))) ?_)
  refine Fw.region ?_
  refine Fw.s (Fw.val_bin rfl rfl (Fw.b_add (Fw.i64_ok (by omega)))) rfl ?_
  refine Fw.s (Fw.val_move rfl) rfl ?_
  refine Fw.nil ?_
  refine Fw.roundEnd _ _ (by omega) ⟨k + 1, u2, a2, os2, ws2, nw2, O2, oc2, W2, wc2, rfl, by omega, hoi2, hga2, by omega, by omega, by omega, hdj2, HReg, HAg, HO, HW, HB, rfl⟩ (.cons rfl (.cons rfl (.cons rfl (.cons rfl (.cons rfl (.cons rfl (.cons rfl (.cons rfl (.cons rfl .nil)))))))))
  rintro i1
  refine Fw.q (Fw.val_move rfl) rfl ?_
  refine Fw.gFQ (d := 211) rfl rfl rfl rfl ?_
  refine Fw.gFQ (d := 211) rfl rfl rfl rfl ?_
  refine Fw.gFQ (d := 211) rfl rfl rfl rfl ?_
  refine Fw.q (Fw.val_pickF rfl rfl) rfl ?_
  refine Fw.q (Fw.val_move rfl) rfl ?_
  refine Fw.gFQ (d := 216) rfl rfl rfl rfl ?_
  refine Fw.gFQ (d := 216) rfl rfl rfl rfl ?_
  refine Fw.gFQ (d := 216) rfl rfl rfl rfl ?_
  refine Fw.gFQ (d := 216) rfl rfl rfl rfl ?_
  refine Fw.gFQ (d := 216) rfl rfl rfl rfl ?_
  refine Fw.q (Fw.val_pickF rfl rfl) rfl ?_
  refine Fw.nilQ ?_
  intro w15 hb
  replace HReg := HReg.low hb
  replace HAg := HAg.low hb
  replace HO := HO.low hb
  replace HW := HW.low hb
  replace Hun := Hun.low hb
  replace HB := HB.trans (hb.mono HB.size)
  clear hb
  refine hK32 _ _ (Fw.FC.sub (f' := [(222, _), (221, _), (220, _), (219, _), (218, _), (217, _), (214, _), (213, _), (212, _), (23, _), (5, _), (7, _), (9, _), (10, _), (11, _), (12, _), (65, _), (66, _), (67, _)]) (.cons rfl (.cons rfl (.cons rfl (.cons rfl (.cons rfl (.cons rfl (.cons rfl (.cons rfl (.cons rfl (.cons rfl (.cons rfl (.cons rfl (.cons rfl (.cons rfl (.cons rfl (.cons rfl (.cons rfl (.cons rfl (.cons rfl .nil))))))))))))))))))) ?_)
  refine Fw.condF rfl ?_
  refine Fw.skip ?_
  refine hK31 _ _ ?_
  refine Fw.seq fun _ hK39 => ?_
  refine Fw.region ?_
  refine Fw.s (Fw.val_fieldAddr fl69_3 rfl rfl) rfl ?_
  refine Fw.ld sc3 rfl (Hun.cell 3) rfl ?_
  refine Fw.s2 (Fw.val_bin rfl rfl Fw.b_eql) rfl ?_ ?_
  rintro f1
  refine Fw.s (Fw.val_move rfl) rfl ?_
  refine Fw.gT (d := 226) rfl rfl ?_
  refine Fw.s (Fw.val_fieldAddr fl69_7 rfl rfl) rfl ?_
  refine Fw.gT (d := 226) rfl rfl ?_
  refine Fw.ld sc2 rfl (Hun.cell 7) rfl ?_
  refine Fw.gT (d := 226) rfl rfl ?_
  refine Fw.s (Fw.Val.F (Fw.val_bin rfl rfl Fw.b_neq) (by exact fun h_ => hoi2.two ⟨f1, .inl h_⟩)) rfl ?_
  refine Fw.gT (d := 226) rfl rfl ?_
  refine Fw.s (Fw.val_move rfl) rfl ?_
  refine Fw.gT (d := 230) rfl rfl ?_
  refine Fw.s (Fw.val_move rfl) rfl ?_
  refine Fw.gT (d := 230) rfl rfl ?_
  refine Fw.call cf24 rfl rfl (agIncident_any _ p pf pg 3 Oi.tE 0 a2 HAg) ?_
  rintro e_ _ ⟨rfl, rfl⟩
  refine ⟨_, rfl, ?_⟩
  refine Fw.gT (d := 230) rfl rfl ?_
  refine Fw.s (Fw.Val.F (Fw.val_bin rfl rfl Fw.b_neq) (by exact fun h_ => hoi2.two ⟨f1, .inr (.inl h_)⟩)) rfl ?_
  refine Fw.gT (d := 226) rfl rfl ?_
  refine Fw.s (Fw.val_pickF rfl rfl) rfl ?_
  refine Fw.gT (d := 226) rfl rfl ?_
  refine Fw.s (Fw.val_move rfl) rfl ?_
  refine Fw.gT (d := 235) rfl rfl ?_
  refine Fw.s (Fw.val_fieldAddr fl69_9 rfl rfl) rfl ?_
  refine Fw.gT (d := 235) rfl rfl ?_
  refine Fw.ld sc2 rfl (Hun.cell 9) rfl ?_
  refine Fw.gT (d := 235) rfl rfl ?_
  refine Fw.s (Fw.val_fieldAddr fl69_8 rfl rfl) rfl ?_
  refine Fw.gT (d := 235) rfl rfl ?_
  refine Fw.ld sc2 rfl (Hun.cell 8) rfl ?_
  refine Fw.gT (d := 235) rfl rfl ?_
  refine Fw.s (Fw.Val.F (Fw.val_bin rfl rfl Fw.b_neq) (by exact fun h_ => hoi2.two ⟨f1, .inr (.inr h_)⟩)) rfl ?_
  refine Fw.gT (d := 226) rfl rfl ?_
  refine Fw.s (Fw.val_pickF rfl rfl) rfl ?_
  refine Fw.s (Fw.val_pickT rfl rfl) rfl ?_
  refine Fw.nil ?_
  refine hK39 _ _ ?_
  refine Fw.condF rfl ?_
  refine Fw.skip ?_
  refine Fw.X_blockN ?_
  refine hK23 _ _ (Fw.FC.sub (f' := [(241, _), (240, _), (239, _), (238, _), (237, _), (236, _), (235, _), (234, _), (233, _), (232, _), (231, _), (230, _), (229, _), (228, _), (227, _), (221, _), (220, _), (219, _), (218, _), (217, _), (214, _), (213, _), (212, _), (5, _), (7, _), (9, _), (10, _), (11, _), (12, _), (65, _), (66, _), (67, _)]) (.cons rfl (.cons rfl (.cons rfl (.cons rfl (.cons rfl (.cons rfl (.cons rfl (.cons rfl (.cons rfl (.cons rfl (.cons rfl (.cons rfl (.cons rfl (.cons rfl (.cons rfl (.cons rfl (.cons rfl (.cons rfl (.cons rfl (.cons rfl (.cons rfl (.cons rfl (.cons rfl (.cons rfl (.cons rfl (.cons rfl (.cons rfl (.cons rfl (.cons rfl (.cons rfl (.cons rfl (.cons rfl .nil)))))))))))))))))))))))))))))))) ?_)
  refine Fw.region ?_
  refine Fw.s (Fw.val_bin rfl rfl (Fw.b_add (Fw.i64_ok (by omega)))) rfl ?_
  refine Fw.s (Fw.val_move rfl) rfl ?_
  refine Fw.nil ?_
  refine Fw.roundEnd _ _ (by omega) ⟨k + 1, u2, a2, os2, ws2, nw2, O2, oc2, W2, wc2, rfl, by omega, hoi2, hga2, by omega, by omega, by omega, hdj2, HReg, HAg, HO, HW, HB, rfl⟩ (.cons rfl (.cons rfl (.cons rfl (.cons rfl (.cons rfl (.cons rfl (.cons rfl (.cons rfl (.cons rfl .nil)))))))))
  rintro f1
  refine Fw.s (Fw.val_move rfl) rfl ?_
  refine Fw.gF (d := 226) rfl rfl rfl rfl ?_
  refine Fw.gF (d := 226) rfl rfl rfl rfl ?_
  refine Fw.gF (d := 226) rfl rfl rfl rfl ?_
  refine Fw.gF (d := 226) rfl rfl rfl rfl ?_
  refine Fw.gU (d := 230) rfl rfl rfl ?_
  refine Fw.gU (d := 230) rfl rfl rfl ?_
  refine Fw.gU (d := 230) rfl rfl rfl ?_
  refine Fw.gF (d := 226) rfl rfl rfl rfl ?_
  refine Fw.gF (d := 226) rfl rfl rfl rfl ?_
  refine Fw.gU (d := 235) rfl rfl rfl ?_
  refine Fw.gU (d := 235) rfl rfl rfl ?_
  refine Fw.gU (d := 235) rfl rfl rfl ?_
  refine Fw.gU (d := 235) rfl rfl rfl ?_
  refine Fw.gU (d := 235) rfl rfl rfl ?_
  refine Fw.gF (d := 226) rfl rfl rfl rfl ?_
  refine Fw.s (Fw.val_pickF rfl rfl) rfl ?_
  refine Fw.nil ?_
  refine hK39 _ _ ?_
  refine Fw.condF rfl ?_
  refine Fw.skip ?_
  refine Fw.X_blockN ?_
  refine hK23 _ _ (Fw.FC.sub (f' := [(241, _), (240, _), (239, _), (238, _), (237, _), (236, _), (235, _), (234, _), (233, _), (232, _), (231, _), (230, _), (229, _), (228, _), (227, _), (221, _), (220, _), (219, _), (218, _), (217, _), (214, _), (213, _), (212, _), (5, _), (7, _), (9, _), (10, _), (11, _), (12, _), (65, _), (66, _), (67, _)]) (.cons rfl (.cons rfl (.cons rfl (.cons rfl (.cons rfl (.cons rfl (.cons rfl (.cons rfl (.cons rfl (.cons rfl (.cons rfl (.cons rfl (.cons rfl (.cons rfl (.cons rfl (.cons rfl (.cons rfl (.cons rfl (.cons rfl (.cons rfl (.cons rfl (.cons rfl (.cons rfl (.cons rfl (.cons rfl (.cons rfl (.cons rfl (.cons rfl (.cons rfl (.cons rfl (.cons rfl (.cons rfl .nil)))))))))))))))))))))))))))))))) ?_)
  refine Fw.region ?_
  refine Fw.s (Fw.val_bin rfl rfl (Fw.b_add (Fw.i64_ok (by omega)))) rfl ?_
  refine Fw.s (Fw.val_move rfl) rfl ?_
  refine Fw.nil ?_
  refine Fw.roundEnd _ _ (by omega) ⟨k + 1, u2, a2, os2, ws2, nw2, O2, oc2, W2, wc2, rfl, by omega, hoi2, hga2, by omega, by omega, by omega, hdj2, HReg, HAg, HO, HW, HB, rfl⟩ (.cons rfl (.cons rfl (.cons rfl (.cons rfl (.cons rfl (.cons rfl (.cons rfl (.cons rfl (.cons rfl .nil)))))))))
  refine Fw.seq fun _ hK41 => ?_
  refine Fw.region ?_
  refine Fw.s (Fw.val_fieldAddr fl42_0 rfl rfl) rfl ?_
  refine Fw.ld sc5 rfl (Hx.cell 0) rfl ?_
  refine Fw.s (Fw.val_bin rfl rfl (Fw.b_rem (by decide) (Int.tmod_eq_emod_of_nonneg hx8.1.1))) rfl ?_
  refine Fw.nil ?_
  refine hK41 _ _ (Fw.FC.sub (f' := [(75, _), (10, _), (14, _), (67, _), (66, _), (65, _), (12, _), (11, _), (9, _), (7, _), (5, _)]) (.cons rfl (.cons rfl (.cons rfl (.cons rfl (.cons rfl (.cons rfl (.cons rfl (.cons rfl (.cons rfl (.cons rfl (.cons rfl .nil))))))))))) ?_)
  refine Fw.block ?_
  refine Fw.seq fun _ hK42 => ?_
  refine Fw.region ?_
  refine Fw.s2 (Fw.val_bin rfl rfl Fw.b_eql) rfl ?_ ?_
  rintro kd0
  refine Fw.s (Fw.val_assign rfl) rfl ?_
  refine Fw.nil ?_
  refine hK42 _ _ ?_
  refine Fw.condT rfl ?_
  refine Fw.seq fun _ hK44 => ?_
  obtain ⟨nw3, hnw3⟩ : ∃ x_, x_ = nw + l[k].a % 4 := ⟨_, rfl⟩
  refine Fw.region ?_
  refine Fw.s (Fw.val_move rfl) rfl ?_
  refine Fw.s (Fw.val_fieldAddr fl42_1 rfl rfl) rfl ?_
  refine Fw.ld sc5 rfl (Hx.cell 1) rfl ?_
  refine Fw.s (Fw.val_bin rfl rfl (Fw.b_rem (by decide) (Int.tmod_eq_emod_of_nonneg hx8.2.1))) rfl ?_
  refine Fw.s (Fw.val_conv Try.underlying5 Try.underlying2 rfl (Fw.i64_ok (by omega))) rfl ?_
  refine Fw.s (Fw.val_bin rfl rfl (Fw.b_add ((Fw.i64_ok (by omega)).trans hnw3.symm))) rfl ?_
  refine Fw.s (Fw.val_assign rfl) rfl ?_
  refine Fw.nil ?_
  refine hK44 _ _ (Fw.FC.sub (f' := [(9, _), (10, _), (67, _), (66, _), (65, _), (12, _), (11, _), (7, _), (5, _)]) (.cons rfl (.cons rfl (.cons rfl (.cons rfl (.cons rfl (.cons rfl (.cons rfl (.cons rfl (.cons rfl .nil))))))))) ?_)
  refine Fw.region ?_
  refine Fw.s (Fw.val_move rfl) rfl ?_
  refine Fw.s (Fw.val_move rfl) rfl ?_
  refine Fw.call cf8 rfl rfl (advance_any _ p pf pg 3 Oi.tE 0 a HAg hga nw3) ?_
  rintro e_ w16 ⟨rfl, H2, hc⟩
  refine ⟨_, rfl, ?_⟩
  have hc2 : Chg (fun k => k = p ∨ k = pf) w8 w16 := (Chg.refl _ _).trans hc (fun _ _ e => .inl e)
  clear hc
  have hk_ := HAg.kp hc2
  replace HReg := HReg.kp hk_ rfl rfl
  replace HO := HO.kp hk_ rfl rfl
  replace HW := HW.kp hk_ rfl rfl
  replace Hx := Hx.kp hk_ rfl
  replace HB := HB.trans (hc2.below (B := w.heap.size) (fun k e => by omega) HB.size)
  clear hc2 hk_ HAg
  have HAg := H2
  clear H2
  refine Fw.nil ?_
  refine Fw.X_blockN ?_
  exact hK27 _ _ ⟨u, (Ag.pass Oi.tE a nw3), os, ws, nw3, O_, oc, V_, wc⟩ ⟨HReg, HAg, HO, HW, ((hoi.later (by omega)).pass nw3), (hga.pass nw3), (by omega), (by rw [(Ag.pass_f Oi.tE a nw3).2.2]; omega), (by omega), hdj, HB⟩ (.cons rfl (.cons rfl (.cons rfl (.cons rfl (.cons rfl (.cons rfl (.cons rfl (.cons rfl (.cons rfl .nil)))))))))
  rintro kd0
  refine Fw.s (Fw.val_assign rfl) rfl ?_
  refine Fw.nil ?_
  refine hK42 _ _ ?_
  refine Fw.condF rfl ?_
  refine Fw.seq fun _ hK45 => ?_
  refine Fw.region ?_
  refine Fw.s2 (Fw.val_bin rfl rfl Fw.b_eql) rfl ?_ ?_
  rintro kd1
  refine Fw.s (Fw.val_assign rfl) rfl ?_
  refine Fw.nil ?_
  refine hK45 _ _ ?_
  refine Fw.condT rfl ?_
  refine Fw.region ?_
  refine Fw.s (Fw.val_move rfl) rfl ?_
  refine Fw.s (Fw.val_move rfl) rfl ?_
  refine Fw.s (Fw.val_move rfl) rfl ?_
  refine Fw.s (Fw.val_fieldAddr fl42_1 rfl rfl) rfl ?_
  refine Fw.ld sc5 rfl (Hx.cell 1) rfl ?_
  refine Fw.s (Fw.val_conv Try.underlying5 Try.underlying3 rfl (Fw.i64_ok (by omega))) rfl ?_
  refine Fw.s (Fw.val_bin rfl rfl (Fw.b_rem (by decide) (Int.tmod_eq_emod_of_nonneg hx8.2.1))) rfl ?_
  refine Fw.call cf9 rfl rfl (assign_any _ BR cp cg 1 [u] 0 ((k : Int) + 1) ((k : Int) + 1) (l[k].a % 3) HReg) ?_
  rintro e_ w17 ⟨rfl, H2, hc⟩
  refine ⟨_, rfl, ?_⟩
  obtain ⟨u2, hu2, hoi2⟩ := hoi.bind (e' := ((k : Int) + 1)) (n := l[k].a % 3) ⟨by omega, by omega, by omega⟩ ⟨by omega, by omega⟩
  rw [hu2] at H2
  have hk_ := HReg.kpc hc
  replace HAg := HAg.kpx hk_ rfl rfl rfl rfl rfl rfl
  replace HO := HO.kp hk_ rfl rfl
  replace HW := HW.kp hk_ rfl rfl
  replace Hx := Hx.kp hk_ rfl
  replace HB := HB.trans (hc.below (B := w.heap.size) (fun k e => by omega) HB.size)
  clear hc hk_ HReg
  have HReg := H2
  clear H2
  refine Fw.nil ?_
  refine Fw.X_blockN ?_
  exact hK27 _ _ ⟨u2, a, os, ws, nw, O_, oc, V_, wc⟩ ⟨HReg, HAg, HO, HW, hoi2, hga, (by omega), (by omega), (by omega), hdj, HB⟩ (.cons rfl (.cons rfl (.cons rfl (.cons rfl (.cons rfl (.cons rfl (.cons rfl (.cons rfl (.cons rfl .nil)))))))))
  rintro kd1
  refine Fw.s (Fw.val_assign rfl) rfl ?_
  refine Fw.nil ?_
  refine hK45 _ _ ?_
  refine Fw.condF rfl ?_
  refine Fw.seq fun _ hK47 => ?_
  refine Fw.region ?_
  refine Fw.s2 (Fw.val_bin rfl rfl Fw.b_eql) rfl ?_ ?_
  rintro kd2
  refine Fw.s (Fw.val_assign rfl) rfl ?_
  refine Fw.nil ?_
  refine hK47 _ _ ?_
  refine Fw.condT rfl ?_
  refine Fw.region ?_
  refine Fw.s (Fw.val_move rfl) rfl ?_
  refine Fw.s (Fw.val_move rfl) rfl ?_
  refine Fw.call cf10 rfl rfl (standDown_any _ BR cp cg 1 [u] 0 ((k : Int) + 1) HReg) ?_
  rintro e_ w18 ⟨rfl, H2, hc⟩
  refine ⟨_, rfl, ?_⟩
  obtain ⟨u2, hu2, hoi2⟩ := hoi.stand (e' := ((k : Int) + 1)) ⟨by omega, by omega, by omega⟩
  rw [hu2] at H2
  have hk_ := HReg.kpc hc
  replace HAg := HAg.kpx hk_ rfl rfl rfl rfl rfl rfl
  replace HO := HO.kp hk_ rfl rfl
  replace HW := HW.kp hk_ rfl rfl
  replace Hx := Hx.kp hk_ rfl
  replace HB := HB.trans (hc.below (B := w.heap.size) (fun k e => by omega) HB.size)
  clear hc hk_ HReg
  have HReg := H2
  clear H2
  refine Fw.nil ?_
  refine Fw.X_blockN ?_
  exact hK27 _ _ ⟨u2, a, os, ws, nw, O_, oc, V_, wc⟩ ⟨HReg, HAg, HO, HW, hoi2, hga, (by omega), (by omega), (by omega), hdj, HB⟩ (.cons rfl (.cons rfl (.cons rfl (.cons rfl (.cons rfl (.cons rfl (.cons rfl (.cons rfl (.cons rfl .nil)))))))))
  rintro kd2
  refine Fw.s (Fw.val_assign rfl) rfl ?_
  refine Fw.nil ?_
  refine hK47 _ _ ?_
  refine Fw.condF rfl ?_
  refine Fw.seq fun _ hK49 => ?_
  refine Fw.region ?_
  refine Fw.s2 (Fw.val_bin rfl rfl Fw.b_eql) rfl ?_ ?_
  rintro kd3
  refine Fw.s (Fw.val_assign rfl) rfl ?_
  refine Fw.nil ?_
  refine hK49 _ _ (Fw.FC.sub (f' := [(105, _), (75, _), (10, _), (14, _), (67, _), (66, _), (65, _), (12, _), (11, _), (9, _), (7, _), (5, _)]) (.cons rfl (.cons rfl (.cons rfl (.cons rfl (.cons rfl (.cons rfl (.cons rfl (.cons rfl (.cons rfl (.cons rfl (.cons rfl (.cons rfl .nil)))))))))))) ?_)
  refine Fw.condT rfl ?_
  refine Fw.region ?_
  refine Fw.s (Fw.val_move rfl) rfl ?_
  refine Fw.s (Fw.val_fieldAddr fl42_1 rfl rfl) rfl ?_
  refine Fw.ld sc5 rfl (Hx.cell 1) rfl ?_
  refine Fw.s (Fw.val_conv Try.underlying5 Try.underlying3 rfl (Fw.i64_ok (by omega))) rfl ?_
  refine Fw.s (Fw.val_bin rfl rfl (Fw.b_rem (by decide) (Int.tmod_eq_emod_of_nonneg hx8.2.1))) rfl ?_
  refine Fw.s (Fw.val_move rfl) rfl ?_
  refine Fw.call cf11 rfl rfl (move_any _ BR cp cg 1 [u] 0 (l[k].a % 3) ((k : Int) + 1) HReg) ?_
  rintro e_ w19 ⟨rfl, H2, hc⟩
  refine ⟨_, rfl, ?_⟩
  obtain ⟨u2, hu2, hoi2⟩ := hoi.move (e' := ((k : Int) + 1)) (n := l[k].a % 3) ⟨by omega, by omega, by omega⟩ ⟨by omega, by omega⟩
  rw [hu2] at H2
  have hk_ := HReg.kpc hc
  replace HAg := HAg.kpx hk_ rfl rfl rfl rfl rfl rfl
  replace HO := HO.kp hk_ rfl rfl
  replace HW := HW.kp hk_ rfl rfl
  replace Hx := Hx.kp hk_ rfl
  replace HB := HB.trans (hc.below (B := w.heap.size) (fun k e => by omega) HB.size)
  clear hc hk_ HReg
  have HReg := H2
  clear H2
  refine Fw.nil ?_
  refine Fw.X_blockN ?_
  exact hK27 _ _ ⟨u2, a, os, ws, nw, O_, oc, V_, wc⟩ ⟨HReg, HAg, HO, HW, hoi2, hga, (by omega), (by omega), (by omega), hdj, HB⟩ (.cons rfl (.cons rfl (.cons rfl (.cons rfl (.cons rfl (.cons rfl (.cons rfl (.cons rfl (.cons rfl .nil)))))))))
  rintro kd3
  refine Fw.s (Fw.val_assign rfl) rfl ?_
  refine Fw.nil ?_
  refine hK49 _ _ (Fw.FC.sub (f' := [(105, _), (75, _), (10, _), (14, _), (67, _), (66, _), (65, _), (12, _), (11, _), (9, _), (7, _), (5, _)]) (.cons rfl (.cons rfl (.cons rfl (.cons rfl (.cons rfl (.cons rfl (.cons rfl (.cons rfl (.cons rfl (.cons rfl (.cons rfl (.cons rfl .nil)))))))))))) ?_)
  refine Fw.condF rfl ?_
  refine Fw.seq fun _ hK51 => ?_
  refine Fw.region ?_
  refine Fw.s2 (Fw.val_bin rfl rfl Fw.b_eql) rfl ?_ ?_
  rintro kd4
  refine Fw.s (Fw.val_assign rfl) rfl ?_
  refine Fw.nil ?_
  refine hK51 _ _ ?_
  refine Fw.condT rfl ?_
  refine Fw.region ?_
  refine Fw.s (Fw.val_move rfl) rfl ?_
  refine Fw.s (Fw.val_move rfl) rfl ?_
  refine Fw.s (Fw.val_move rfl) rfl ?_
  refine Fw.call cf12 rfl rfl (silent_any _ BR cp cg 1 [u] nw 5 ((k : Int) + 1) HReg (show (1 : Nat) ≤ 256 by decide)) ?_
  rintro e_ w20 ⟨A_, c_, rfl, -, H2, hc⟩
  refine ⟨_, rfl, ?_⟩
  obtain ⟨u2, hu2, hoi2⟩ := hoi.quiet nw 5 (e' := ((k : Int) + 1)) ⟨by omega, by omega, by omega⟩
  rw [hu2] at H2
  have hk_ := HReg.kpc hc
  replace HAg := HAg.kpx hk_ rfl rfl rfl rfl rfl rfl
  replace HO := HO.kp hk_ rfl rfl
  replace HW := HW.kp hk_ rfl rfl
  replace Hx := Hx.kp hk_ rfl
  replace HB := HB.trans (hc.below (B := w.heap.size) (fun k e => by omega) HB.size)
  clear hc hk_ HReg
  have HReg := H2
  clear H2
  refine Fw.nil ?_
  refine Fw.X_blockN ?_
  exact hK27 _ _ ⟨u2, a, os, ws, nw, O_, oc, V_, wc⟩ ⟨HReg, HAg, HO, HW, hoi2, hga, (by omega), (by omega), (by omega), hdj, HB⟩ (.cons rfl (.cons rfl (.cons rfl (.cons rfl (.cons rfl (.cons rfl (.cons rfl (.cons rfl (.cons rfl .nil)))))))))
  rintro kd4
  refine Fw.s (Fw.val_assign rfl) rfl ?_
  refine Fw.nil ?_
  refine hK51 _ _ ?_
  refine Fw.condF rfl ?_
  refine Fw.seq fun _ hK53 => ?_
  refine Fw.region ?_
  refine Fw.s2 (Fw.val_bin rfl rfl Fw.b_eql) rfl ?_ ?_
  rintro kd5
  refine Fw.s (Fw.val_assign rfl) rfl ?_
  refine Fw.nil ?_
  refine hK53 _ _ ?_
  refine Fw.condT rfl ?_
  refine Fw.seq fun _ hK55 => ?_
  obtain ⟨q1, q2, q3, q4, q5, hO5⟩ := Us.ordI_five [u] 0
  refine Fw.region ?_
  refine Fw.s (Fw.val_move rfl) rfl ?_
  refine Fw.call cf13 rfl rfl (by have this := pendingOrder_any w8 BR cp cg 1 [u] 0 HReg; unfold Us.ordA at this; rw [hO5] at this; exact this) ?_
  rintro e_ w21 ⟨rfl, hb⟩
  refine ⟨_, rfl, ?_⟩
  replace HReg := HReg.low hb
  replace HAg := HAg.low hb
  replace HO := HO.low hb
  replace HW := HW.low hb
  replace Hx := Hx.low hb
  replace HB := HB.trans (hb.mono HB.size)
  clear hb
  refine Fw.s (Fw.val_move rfl) rfl ?_
  refine Fw.s (Fw.val_extract rfl rfl) rfl ?_
  refine Fw.s (Fw.val_extract rfl rfl) rfl ?_
  refine Fw.alloc ze50 rfl ?_
  intro w22 go1 ego1 Ho1 hb
  have n_gx_go1 : gx < go1 := by have := Hx.lt; omega
  have lgo1 : w.heap.size ≤ go1 := by have := HB.size; omega
  replace HReg := HReg.low hb
  replace HAg := HAg.low hb
  replace HO := HO.low hb
  replace HW := HW.low hb
  replace Hx := Hx.low hb
  replace HB := HB.trans (hb.mono HB.size)
  clear hb
  clear ego1
  refine Fw.storeW sz50 rfl rfl Ho1 rfl rfl (by exact Fw.oneCells rfl) ?_
  intro w23 N_ hc
  have hk_ := (Fw.Kp.refl [50] _).one hc Ho1 rfl
  replace HReg := HReg.kp hk_ rfl rfl
  replace HAg := HAg.kpx hk_ rfl rfl rfl rfl rfl rfl
  replace HO := HO.kp hk_ rfl rfl
  replace HW := HW.kp hk_ rfl rfl
  replace Hx := Hx.kp hk_ rfl
  replace HB := HB.trans (hc.below (B := w.heap.size) (fun k e => by omega) HB.size)
  clear hc hk_
  clear Ho1
  have Ho1 := N_
  clear N_
  replace Ho1 : Blk w23 go1 50 #[.int .i64 q1, .int .i64 q2, .int .i64 q3, .int .i64 q4, .int .i64 q5] := Ho1
  refine Fw.s (Fw.val_assign rfl) rfl ?_
  refine Fw.nil ?_
  refine hK55 _ _ (Fw.FC.sub (f' := [(16, _), (15, _), (10, _), (67, _), (66, _), (65, _), (12, _), (11, _), (9, _), (7, _), (5, _)]) (.cons rfl (.cons rfl (.cons rfl (.cons rfl (.cons rfl (.cons rfl (.cons rfl (.cons rfl (.cons rfl (.cons rfl (.cons rfl .nil))))))))))) ?_)
  refine Fw.seq fun _ hK56 => ?_
  refine Fw.region ?_
  refine Fw.s (Fw.val_move rfl) rfl ?_
  refine Fw.b2 ?_ ?_
  rintro hpd
  refine Fw.nil ?_
  refine hK56 _ _ ?_
  refine Fw.condT rfl ?_
  have ho1 := Oi.ord1 hpd
  rw [hO5] at ho1
  simp only [List.cons.injEq] at ho1
  obtain ⟨rfl, rfl, rfl, rfl, rfl, _⟩ := ho1
  have hpp := Oi.pend1 hpd
  have hcv := (hoi.mc (by have := hoi.ep; omega)).2
  refine Fw.region ?_
  refine Fw.s (Fw.val_move rfl) rfl ?_
  refine Fw.ldA ag50 rfl (Fw.rdBlk Ho1) rfl rfl ?_
  refine Fw.call cf14 rfl rfl (encodeOrder_any (Oi.cu u) _ (Or.valid_O64 hcv)) ?_
  rintro e_ w24 ⟨Ae_, ce_, rfl, HE8, hb⟩
  refine ⟨_, rfl, ?_⟩
  replace HReg := HReg.low hb
  replace HAg := HAg.low hb
  replace HO := HO.low hb
  replace HW := HW.low hb
  replace Hx := Hx.low hb
  replace Ho1 := Ho1.low hb
  replace HB := HB.trans (hb.mono HB.size)
  clear hb
  replace HE8 := Fw.RdT.own HE8
  refine Fw.buildSlice [_] sl40 rfl rfl (by exact Fw.allSz rfl) (by decide) rfl ?_
  intro w25 gS131 egS131 HS131 hb
  have n_gx_gS131 : gx < gS131 := by have := Hx.lt; omega
  have n_go1_gS131 : go1 < gS131 := by have := Ho1.lt; omega
  have lgS131 : w.heap.size ≤ gS131 := by have := HB.size; omega
  replace HReg := HReg.low hb
  replace HAg := HAg.low hb
  replace HO := HO.low hb
  replace HW := HW.low hb
  replace Hx := Hx.low hb
  replace Ho1 := Ho1.low hb
  replace HE8 := HE8.low hb
  replace HB := HB.trans (hb.mono HB.size)
  clear hb
  clear egS131
  obtain ⟨hnO, svs, hoO, heO⟩ := HO
  refine Fw.append (os ++ [(Oi.cu u)]).length (svs ++ [.slice Ae_ (Or.put (Oi.cu u)).length ce_]) sl40 rfl rfl hoO (Fw.rdBlk HS131) rfl (Fw.oneCellsL rfl) (by unfold maxLen; omega) HB.size (by simp) rfl rfl ?_
  intro A132 c132 w26 N_ hbb hc hrow
  have hk_ := (Fw.Kp.refl [53] _).row hc hoO rfl
  have H2 : BRow w26 w.heap.size A132 (os ++ [(Oi.cu u)]).length c132 ((os ++ [(Oi.cu u)]).map Or.put) := by rw [List.map_append]; exact BRow.snoc hnO hoO heO HE8 hc N_ (by simp)
  have hdjn : ∀ g_, A132.map (·.block) = some g_ → V_.map (·.block) = some g_ → False := fun g_ e1_ e2_ => by
    rcases hrow with h_ | h_
    rw [ownBlock_slice] at h_; exact hdj g_ (h_ ▸ e1_) e2_
    have := HW.lt e2_; rw [h_] at e1_; injection e1_ with e1_; omega
  replace HReg := HReg.kp hk_ rfl rfl
  replace HAg := HAg.kpx hk_ rfl rfl rfl rfl rfl rfl
  replace Hx := Hx.kp hk_ rfl
  replace Ho1 := Ho1.kp hk_ rfl
  replace HW := HW.other hc (fun g_ e_ s_ => hdj g_ (by have s_ : some g_ = (Value.slice O_ os.length oc).ownBlock := s_; rw [ownBlock_slice] at s_; exact s_.symm) e_) hk_ rfl
  replace HB := HB.trans hbb
  clear hbb hc hk_ N_ hoO heO hrow HS131 HE8
  have HO := H2
  clear H2
  refine Fw.s (Fw.val_assign rfl) rfl ?_
  refine Fw.nil ?_
  refine Fw.X_blockN ?_
  exact hK27 _ _ ⟨u, a, (os ++ [Oi.cu u]), ws, nw, A132, c132, V_, wc⟩ ⟨HReg, HAg, HO, HW, ((hoi.send hpp).later (by omega)), hga, (by omega), (by omega), (by simp; omega), hdjn, HB⟩ (.cons rfl (.cons rfl (.cons rfl (.cons rfl (.cons rfl (.cons rfl (.cons rfl (.cons rfl (.cons rfl .nil)))))))))
  rintro hpd
  refine Fw.nil ?_
  refine hK56 _ _ ?_
  refine Fw.condF rfl ?_
  refine Fw.skip ?_
  refine Fw.X_blockN ?_
  exact hK27 _ _ ⟨u, a, os, ws, nw, O_, oc, V_, wc⟩ ⟨HReg, HAg, HO, HW, (hoi.later (by omega)), hga, (by omega), (by omega), (by omega), hdj, HB⟩ (.cons rfl (.cons rfl (.cons rfl (.cons rfl (.cons rfl (.cons rfl (.cons rfl (.cons rfl (.cons rfl .nil)))))))))
  rintro kd5
  refine Fw.s (Fw.val_assign rfl) rfl ?_
  refine Fw.nil ?_
  refine hK53 _ _ ?_
  refine Fw.condF rfl ?_
  refine Fw.seq fun _ hK57 => ?_
  refine Fw.region ?_
  refine Fw.s2 (Fw.val_bin rfl rfl Fw.b_eql) rfl ?_ ?_
  rintro kd6
  refine Fw.s (Fw.val_assign rfl) rfl ?_
  refine Fw.nil ?_
  refine hK57 _ _ ?_
  refine Fw.condT rfl ?_
  refine Fw.seq fun _ hK59 => ?_
  refine Fw.region ?_
  refine Fw.s (Fw.val_move rfl) rfl ?_
  refine Fw.s (Fw.val_len Try.underlying40 rfl) rfl ?_
  refine Fw.s2 (Fw.val_bin rfl rfl Fw.b_gtr) rfl ?_ ?_
  rintro hlen
  refine Fw.nil ?_
  refine hK59 _ _ (Fw.FC.sub (f' := [(137, _), (10, _), (14, _), (67, _), (66, _), (65, _), (12, _), (11, _), (9, _), (7, _), (5, _)]) (.cons rfl (.cons rfl (.cons rfl (.cons rfl (.cons rfl (.cons rfl (.cons rfl (.cons rfl (.cons rfl (.cons rfl (.cons rfl .nil))))))))))) ?_)
  refine Fw.condT rfl ?_
  refine Fw.seq fun _ hK61 => ?_
  have hlp : (os.length : Int) ≠ 0 := by omega
  have hj0 := Int.emod_nonneg l[k].a hlp
  have hj1 := Int.emod_lt_of_pos l[k].a (show (0 : Int) < (os.length : Int) by omega)
  obtain ⟨z, hz⟩ : ∃ z_, z_ = l[k].a % (os.length : Int) := ⟨_, rfl⟩
  rw [← hz] at hj0 hj1
  obtain ⟨j, rfl⟩ : ∃ j : Nat, z = j := ⟨z.toNat, by omega⟩
  have hjl : j < os.length := by omega
  obtain ⟨adj, bj, oj, Ak, ck, hAj, haddj, HCj, HRj⟩ := BRow.at_ Or.put HO j hjl
  have hov := hoi.mo os[j] (List.getElem_mem hjl)
  obtain ⟨hd1, hd2⟩ := Or.ok_put (Or.valid_O64 hov.1) hov.1
  refine Fw.region ?_
  refine Fw.s (Fw.val_move rfl) rfl ?_
  refine Fw.s (Fw.val_fieldAddr fl42_1 rfl rfl) rfl ?_
  refine Fw.ld sc5 rfl (Hx.cell 1) rfl ?_
  refine Fw.s (Fw.val_conv Try.underlying5 Try.underlying3 rfl (Fw.i64_ok (by omega))) rfl ?_
  refine Fw.s (Fw.val_move rfl) rfl ?_
  refine Fw.s (Fw.val_len Try.underlying40 rfl) rfl ?_
  refine Fw.s (Fw.val_bin rfl rfl (Fw.b_rem hlp ((Int.tmod_eq_emod_of_nonneg hx8.2.1).trans hz.symm))) rfl ?_
  refine Fw.s (Fw.val_indexR Try.underlying40 sz53 rfl hAj rfl rfl hjl haddj) rfl ?_
  refine Fw.ld sc53 rfl (HCj) rfl ?_
  refine Fw.call cf15 rfl rfl (by have this := decodeOrder_any Ak (Or.put os[j]) ck w8 HRj.1 (Or.put_bts _) (Nat.le_trans (Or.put_len (Or.valid_O64 hov.1)) (by decide)); rw [hd2, hd1] at this; exact this) ?_
  rintro e_ w27 ⟨rfl, hb⟩
  refine ⟨_, rfl, ?_⟩
  replace HReg := HReg.low hb
  replace HAg := HAg.low hb
  replace HO := HO.low hb
  replace HW := HW.low hb
  replace Hx := Hx.low hb
  replace HCj := (hb.cell (World.block_lt_of_cell? _ _ HCj)).trans HCj
  replace HRj := HRj.low hb
  replace HB := HB.trans (hb.mono HB.size)
  clear hb
  clear HCj HRj
  refine Fw.s (Fw.val_move rfl) rfl ?_
  refine Fw.s (Fw.val_extract rfl rfl) rfl ?_
  refine Fw.s (Fw.val_extract rfl rfl) rfl ?_
  refine Fw.alloc ze50 rfl ?_
  intro w28 go2 ego2 Ho2 hb
  have n_gx_go2 : gx < go2 := by have := Hx.lt; omega
  have lgo2 : w.heap.size ≤ go2 := by have := HB.size; omega
  replace HReg := HReg.low hb
  replace HAg := HAg.low hb
  replace HO := HO.low hb
  replace HW := HW.low hb
  replace Hx := Hx.low hb
  replace HB := HB.trans (hb.mono HB.size)
  clear hb
  clear ego2
  refine Fw.storeW sz50 rfl rfl Ho2 rfl rfl (by exact Fw.oneCells rfl) ?_
  intro w29 N_ hc
  have hk_ := (Fw.Kp.refl [50] _).one hc Ho2 rfl
  replace HReg := HReg.kp hk_ rfl rfl
  replace HAg := HAg.kpx hk_ rfl rfl rfl rfl rfl rfl
  replace HO := HO.kp hk_ rfl rfl
  replace HW := HW.kp hk_ rfl rfl
  replace Hx := Hx.kp hk_ rfl
  replace HB := HB.trans (hc.below (B := w.heap.size) (fun k e => by omega) HB.size)
  clear hc hk_
  clear Ho2
  have Ho2 := N_
  clear N_
  replace Ho2 : Blk w29 go2 50 #[.int .i64 os[j].u, .int .i64 os[j].e, .int .i64 os[j].k, .int .i64 os[j].i, .int .i64 os[j].n] := Ho2
  refine Fw.s (Fw.val_assign rfl) rfl ?_
  refine Fw.nil ?_
  refine hK61 _ _ (Fw.FC.sub (f' := [(18, _), (17, _), (10, _), (67, _), (66, _), (65, _), (12, _), (11, _), (9, _), (7, _), (5, _)]) (.cons rfl (.cons rfl (.cons rfl (.cons rfl (.cons rfl (.cons rfl (.cons rfl (.cons rfl (.cons rfl (.cons rfl (.cons rfl .nil))))))))))) ?_)
  refine Fw.seq fun _ hK63 => ?_
  refine Fw.region ?_
  refine Fw.s (Fw.val_move rfl) rfl ?_
  refine Fw.s (Fw.Val.T (Fw.val_bin rfl rfl Fw.b_eql) (by rfl)) rfl ?_
  refine Fw.nil ?_
  refine hK63 _ _ ?_
  refine Fw.condT rfl ?_
  refine Fw.region ?_
  refine Fw.s (Fw.val_move rfl) rfl ?_
  refine Fw.ldA ag50 rfl (Fw.rdBlk Ho2) rfl rfl ?_
  refine Fw.s (Fw.val_move rfl) rfl ?_
  refine Fw.call cf16 rfl rfl (receive_any _ p pf pg 3 Oi.tE 0 a HAg hga os[j] nw) ?_
  rintro e_ w30 ⟨rfl, H2, hc⟩
  refine ⟨_, rfl, ?_⟩
  have hc2 : Chg (fun k => k = p ∨ k = pf) w29 w30 := hc
  clear hc
  have hk_ := HAg.kp hc2
  replace HReg := HReg.kp hk_ rfl rfl
  replace HO := HO.kp hk_ rfl rfl
  replace HW := HW.kp hk_ rfl rfl
  replace Hx := Hx.kp hk_ rfl
  replace Ho2 := Ho2.kp hk_ rfl
  replace HB := HB.trans (hc2.below (B := w.heap.size) (fun k e => by omega) HB.size)
  clear hc2 hk_ HAg
  have HAg := H2
  clear H2
  refine Fw.nil ?_
  refine Fw.X_blockN ?_
  exact hK27 _ _ ⟨u, (Ag.recv 3 Oi.tE 0 a os[j] nw), os, ws, nw, O_, oc, V_, wc⟩ ⟨HReg, HAg, HO, HW, ((hoi.later (by omega)).recv hga (List.getElem_mem hjl) nw), (hga.recv os[j] nw), (by omega), (by rw [Oi.recv_l]; omega), (by omega), hdj, HB⟩ (.cons rfl (.cons rfl (.cons rfl (.cons rfl (.cons rfl (.cons rfl (.cons rfl (.cons rfl (.cons rfl .nil)))))))))
  rintro hlen
  refine Fw.nil ?_
  refine hK59 _ _ (Fw.FC.sub (f' := [(137, _), (10, _), (14, _), (67, _), (66, _), (65, _), (12, _), (11, _), (9, _), (7, _), (5, _)]) (.cons rfl (.cons rfl (.cons rfl (.cons rfl (.cons rfl (.cons rfl (.cons rfl (.cons rfl (.cons rfl (.cons rfl (.cons rfl .nil))))))))))) ?_)
  refine Fw.condF rfl ?_
  refine Fw.skip ?_
  refine Fw.X_blockN ?_
  exact hK27 _ _ ⟨u, a, os, ws, nw, O_, oc, V_, wc⟩ ⟨HReg, HAg, HO, HW, (hoi.later (by omega)), hga, (by omega), (by omega), (by omega), hdj, HB⟩ (.cons rfl (.cons rfl (.cons rfl (.cons rfl (.cons rfl (.cons rfl (.cons rfl (.cons rfl (.cons rfl .nil)))))))))
  rintro kd6
  refine Fw.s (Fw.val_assign rfl) rfl ?_
  refine Fw.nil ?_
  refine hK57 _ _ ?_
  refine Fw.condF rfl ?_
  refine Fw.seq fun _ hK64 => ?_
  refine Fw.region ?_
  refine Fw.s2 (Fw.val_bin rfl rfl Fw.b_eql) rfl ?_ ?_
  rintro kd7
  refine Fw.s (Fw.val_assign rfl) rfl ?_
  refine Fw.nil ?_
  refine hK64 _ _ (Fw.FC.sub (f' := [(157, _), (75, _), (10, _), (14, _), (67, _), (66, _), (65, _), (12, _), (11, _), (9, _), (7, _), (5, _)]) (.cons rfl (.cons rfl (.cons rfl (.cons rfl (.cons rfl (.cons rfl (.cons rfl (.cons rfl (.cons rfl (.cons rfl (.cons rfl (.cons rfl .nil)))))))))))) ?_)
  refine Fw.condT rfl ?_
  refine Fw.seq fun _ hK66 => ?_
  obtain ⟨hoiR, hoiW⟩ := (hoi.later (show (k : Int) ≤ (k : Int) + 1 by omega)).report hga nw 1 (by omega) (by omega)
  refine Fw.region ?_
  refine Fw.s (Fw.val_move rfl) rfl ?_
  refine Fw.s (Fw.val_move rfl) rfl ?_
  refine Fw.call cf17 rfl rfl (report_any _ p pf pg 3 Oi.tE 0 a HAg hga nw 1) ?_
  rintro e_ w31 ⟨rfl, H2, hc⟩
  refine ⟨_, rfl, ?_⟩
  have hc2 : Chg (fun k => k = p ∨ k = pf) w8 w31 := (Chg.refl _ _).trans hc (fun _ _ e => .inl e)
  clear hc
  have hk_ := HAg.kp hc2
  replace HReg := HReg.kp hk_ rfl rfl
  replace HO := HO.kp hk_ rfl rfl
  replace HW := HW.kp hk_ rfl rfl
  replace Hx := Hx.kp hk_ rfl
  replace HB := HB.trans (hc2.below (B := w.heap.size) (fun k e => by omega) HB.size)
  clear hc2 hk_ HAg
  have HAg := H2
  clear H2
  refine Fw.s (Fw.val_move rfl) rfl ?_
  refine Fw.s (Fw.val_extract rfl rfl) rfl ?_
  refine Fw.s (Fw.val_extract rfl rfl) rfl ?_
  refine Fw.alloc ze60 rfl ?_
  intro w32 gs1 egs1 Hs1 hb
  have n_gx_gs1 : gx < gs1 := by have := Hx.lt; omega
  have lgs1 : w.heap.size ≤ gs1 := by have := HB.size; omega
  replace HReg := HReg.low hb
  replace HAg := HAg.low hb
  replace HO := HO.low hb
  replace HW := HW.low hb
  replace Hx := Hx.low hb
  replace HB := HB.trans (hb.mono HB.size)
  clear hb
  clear egs1
  refine Fw.storeW sz60 rfl rfl Hs1 rfl rfl (by exact Fw.oneCells rfl) ?_
  intro w33 N_ hc
  have hk_ := (Fw.Kp.refl [60] _).one hc Hs1 rfl
  replace HReg := HReg.kp hk_ rfl rfl
  replace HAg := HAg.kpx hk_ rfl rfl rfl rfl rfl rfl
  replace HO := HO.kp hk_ rfl rfl
  replace HW := HW.kp hk_ rfl rfl
  replace Hx := Hx.kp hk_ rfl
  replace HB := HB.trans (hc.below (B := w.heap.size) (fun k e => by omega) HB.size)
  clear hc hk_
  clear Hs1
  have Hs1 := N_
  clear N_
  replace Hs1 : Blk w33 gs1 60 #[.int .i64 (Ag.reportS Oi.tE 0 a nw 1).u, .int .i64 (Ag.reportS Oi.tE 0 a nw 1).q, .int .i64 (Ag.reportS Oi.tE 0 a nw 1).s, .int .i64 (Ag.reportS Oi.tE 0 a nw 1).n, .int .i64 (Ag.reportS Oi.tE 0 a nw 1).e] := Hs1
  refine Fw.s (Fw.val_assign rfl) rfl ?_
  refine Fw.nil ?_
  refine hK66 _ _ (Fw.FC.sub (f' := [(20, _), (19, _), (10, _), (67, _), (66, _), (65, _), (12, _), (11, _), (9, _), (7, _), (5, _)]) (.cons rfl (.cons rfl (.cons rfl (.cons rfl (.cons rfl (.cons rfl (.cons rfl (.cons rfl (.cons rfl (.cons rfl (.cons rfl .nil))))))))))) ?_)
  refine Fw.seq fun _ hK67 => ?_
  refine Fw.region ?_
  refine Fw.s (Fw.val_move rfl) rfl ?_
  refine Fw.b2 ?_ ?_
  rintro hrb
  refine Fw.nil ?_
  refine hK67 _ _ ?_
  refine Fw.condT rfl ?_
  have hoiW2 := hoiW hrb
  have hfit := (hoiW2.mw (Ag.reportS Oi.tE 0 a nw 1) (by simp)).1
  refine Fw.region ?_
  refine Fw.s (Fw.val_move rfl) rfl ?_
  refine Fw.ldA ag60 rfl (Fw.rdBlk Hs1) rfl rfl ?_
  refine Fw.call cf18 rfl rfl (encodeStatus_any (Ag.reportS Oi.tE 0 a nw 1) _ (Or.fit_S64 hfit)) ?_
  rintro e_ w34 ⟨Ae_, ce_, rfl, HE8, hb⟩
  refine ⟨_, rfl, ?_⟩
  replace HReg := HReg.low hb
  replace HAg := HAg.low hb
  replace HO := HO.low hb
  replace HW := HW.low hb
  replace Hx := Hx.low hb
  replace Hs1 := Hs1.low hb
  replace HB := HB.trans (hb.mono HB.size)
  clear hb
  replace HE8 := Fw.RdT.own HE8
  refine Fw.buildSlice [_] sl40 rfl rfl (by exact Fw.allSz rfl) (by decide) rfl ?_
  intro w35 gS169 egS169 HS169 hb
  have n_gx_gS169 : gx < gS169 := by have := Hx.lt; omega
  have n_gs1_gS169 : gs1 < gS169 := by have := Hs1.lt; omega
  have lgS169 : w.heap.size ≤ gS169 := by have := HB.size; omega
  replace HReg := HReg.low hb
  replace HAg := HAg.low hb
  replace HO := HO.low hb
  replace HW := HW.low hb
  replace Hx := Hx.low hb
  replace Hs1 := Hs1.low hb
  replace HE8 := HE8.low hb
  replace HB := HB.trans (hb.mono HB.size)
  clear hb
  clear egS169
  obtain ⟨hnO, svs, hoO, heO⟩ := HW
  refine Fw.append (ws ++ [(Ag.reportS Oi.tE 0 a nw 1)]).length (svs ++ [.slice Ae_ (Or.say (Ag.reportS Oi.tE 0 a nw 1)).length ce_]) sl40 rfl rfl hoO (Fw.rdBlk HS169) rfl (Fw.oneCellsL rfl) (by unfold maxLen; omega) HB.size (by simp) rfl rfl ?_
  intro A170 c170 w36 N_ hbb hc hrow
  have hk_ := (Fw.Kp.refl [53] _).row hc hoO rfl
  have H2 : BRow w36 w.heap.size A170 (ws ++ [(Ag.reportS Oi.tE 0 a nw 1)]).length c170 ((ws ++ [(Ag.reportS Oi.tE 0 a nw 1)]).map Or.say) := by rw [List.map_append]; exact BRow.snoc hnO hoO heO HE8 hc N_ (by simp)
  have hdjn : ∀ g_, O_.map (·.block) = some g_ → A170.map (·.block) = some g_ → False := fun g_ e1_ e2_ => by
    rcases hrow with h_ | h_
    rw [ownBlock_slice] at h_; exact hdj g_ e1_ (h_ ▸ e2_)
    have := HO.lt e1_; rw [h_] at e2_; injection e2_ with e2_; omega
  replace HReg := HReg.kp hk_ rfl rfl
  replace HAg := HAg.kpx hk_ rfl rfl rfl rfl rfl rfl
  replace Hx := Hx.kp hk_ rfl
  replace Hs1 := Hs1.kp hk_ rfl
  replace HO := HO.other hc (fun g_ e_ s_ => hdj g_ e_ (by have s_ : some g_ = (Value.slice V_ ws.length wc).ownBlock := s_; rw [ownBlock_slice] at s_; exact s_.symm)) hk_ rfl
  replace HB := HB.trans hbb
  clear hbb hc hk_ N_ hoO heO hrow HS169 HE8
  have HW := H2
  clear H2
  refine Fw.s (Fw.val_assign rfl) rfl ?_
  refine Fw.nil ?_
  refine Fw.X_blockN ?_
  exact hK27 _ _ ⟨u, (Ag.report Oi.tE 0 a nw 1), os, (ws ++ [(Ag.reportS Oi.tE 0 a nw 1)]), nw, O_, oc, A170, c170⟩ ⟨HReg, HAg, HO, HW, hoiW2, (hga.report nw 1), (by omega), (by have := Oi.report_q Oi.tE 0 a nw 1 (by omega); omega), (by simp; omega), hdjn, HB⟩ (.cons rfl (.cons rfl (.cons rfl (.cons rfl (.cons rfl (.cons rfl (.cons rfl (.cons rfl (.cons rfl .nil)))))))))
  rintro hrb
  refine Fw.nil ?_
  refine hK67 _ _ ?_
  refine Fw.condF rfl ?_
  refine Fw.skip ?_
  refine Fw.X_blockN ?_
  exact hK27 _ _ ⟨u, (Ag.report Oi.tE 0 a nw 1), os, ws, nw, O_, oc, V_, wc⟩ ⟨HReg, HAg, HO, HW, hoiR, (hga.report nw 1), (by omega), (by have := Oi.report_q Oi.tE 0 a nw 1 (by omega); omega), (by omega), hdj, HB⟩ (.cons rfl (.cons rfl (.cons rfl (.cons rfl (.cons rfl (.cons rfl (.cons rfl (.cons rfl (.cons rfl .nil)))))))))
  rintro kd7
  refine Fw.s (Fw.val_assign rfl) rfl ?_
  refine Fw.nil ?_
  refine hK64 _ _ (Fw.FC.sub (f' := [(157, _), (75, _), (10, _), (14, _), (67, _), (66, _), (65, _), (12, _), (11, _), (9, _), (7, _), (5, _)]) (.cons rfl (.cons rfl (.cons rfl (.cons rfl (.cons rfl (.cons rfl (.cons rfl (.cons rfl (.cons rfl (.cons rfl (.cons rfl (.cons rfl .nil)))))))))))) ?_)
  refine Fw.condF rfl ?_
  refine Fw.seq fun _ hK68 => ?_
  refine Fw.region ?_
  refine Fw.s2 (Fw.val_bin rfl rfl Fw.b_eql) rfl ?_ ?_
  rintro kd8
  refine Fw.s (Fw.val_assign rfl) rfl ?_
  refine Fw.nil ?_
  refine hK68 _ _ ?_
  refine Fw.condT rfl ?_
  refine Fw.seq fun _ hK70 => ?_
  refine Fw.region ?_
  refine Fw.s (Fw.val_move rfl) rfl ?_
  refine Fw.s (Fw.val_len Try.underlying40 rfl) rfl ?_
  refine Fw.s2 (Fw.val_bin rfl rfl Fw.b_gtr) rfl ?_ ?_
  rintro hlen
  refine Fw.nil ?_
  refine hK70 _ _ ?_
  refine Fw.condT rfl ?_
  refine Fw.seq fun _ hK72 => ?_
  have hlp : (ws.length : Int) ≠ 0 := by omega
  have hj0 := Int.emod_nonneg l[k].a hlp
  have hj1 := Int.emod_lt_of_pos l[k].a (show (0 : Int) < (ws.length : Int) by omega)
  obtain ⟨z, hz⟩ : ∃ z_, z_ = l[k].a % (ws.length : Int) := ⟨_, rfl⟩
  rw [← hz] at hj0 hj1
  obtain ⟨j, rfl⟩ : ∃ j : Nat, z = j := ⟨z.toNat, by omega⟩
  have hjl : j < ws.length := by omega
  obtain ⟨adj, bj, oj, Ak, ck, hAj, haddj, HCj, HRj⟩ := BRow.at_ Or.say HW j hjl
  have hov := hoi.mw ws[j] (List.getElem_mem hjl)
  obtain ⟨hd1, hd2⟩ := Or.ok_say (Or.fit_S64 hov.1) hov.1
  refine Fw.region ?_
  refine Fw.s (Fw.val_move rfl) rfl ?_
  refine Fw.s (Fw.val_fieldAddr fl42_1 rfl rfl) rfl ?_
  refine Fw.ld sc5 rfl (Hx.cell 1) rfl ?_
  refine Fw.s (Fw.val_conv Try.underlying5 Try.underlying3 rfl (Fw.i64_ok (by omega))) rfl ?_
  refine Fw.s (Fw.val_move rfl) rfl ?_
  refine Fw.s (Fw.val_len Try.underlying40 rfl) rfl ?_
  refine Fw.s (Fw.val_bin rfl rfl (Fw.b_rem hlp ((Int.tmod_eq_emod_of_nonneg hx8.2.1).trans hz.symm))) rfl ?_
  refine Fw.s (Fw.val_indexR Try.underlying40 sz53 rfl hAj rfl rfl hjl haddj) rfl ?_
  refine Fw.ld sc53 rfl (HCj) rfl ?_
  refine Fw.call cf19 rfl rfl (by have this := decodeStatus_any Ak (Or.say ws[j]) ck w8 HRj.1 (Or.say_bts _) (Nat.le_trans (Or.say_len (Or.fit_S64 hov.1)) (by decide)); rw [hd2, hd1] at this; exact this) ?_
  rintro e_ w37 ⟨rfl, hb⟩
  refine ⟨_, rfl, ?_⟩
  replace HReg := HReg.low hb
  replace HAg := HAg.low hb
  replace HO := HO.low hb
  replace HW := HW.low hb
  replace Hx := Hx.low hb
  replace HCj := (hb.cell (World.block_lt_of_cell? _ _ HCj)).trans HCj
  replace HRj := HRj.low hb
  replace HB := HB.trans (hb.mono HB.size)
  clear hb
  clear HCj HRj
  refine Fw.s (Fw.val_move rfl) rfl ?_
  refine Fw.s (Fw.val_extract rfl rfl) rfl ?_
  refine Fw.s (Fw.val_extract rfl rfl) rfl ?_
  refine Fw.alloc ze60 rfl ?_
  intro w38 gs2 egs2 Hs2 hb
  have n_gx_gs2 : gx < gs2 := by have := Hx.lt; omega
  have lgs2 : w.heap.size ≤ gs2 := by have := HB.size; omega
  replace HReg := HReg.low hb
  replace HAg := HAg.low hb
  replace HO := HO.low hb
  replace HW := HW.low hb
  replace Hx := Hx.low hb
  replace HB := HB.trans (hb.mono HB.size)
  clear hb
  clear egs2
  refine Fw.storeW sz60 rfl rfl Hs2 rfl rfl (by exact Fw.oneCells rfl) ?_
  intro w39 N_ hc
  have hk_ := (Fw.Kp.refl [60] _).one hc Hs2 rfl
  replace HReg := HReg.kp hk_ rfl rfl
  replace HAg := HAg.kpx hk_ rfl rfl rfl rfl rfl rfl
  replace HO := HO.kp hk_ rfl rfl
  replace HW := HW.kp hk_ rfl rfl
  replace Hx := Hx.kp hk_ rfl
  replace HB := HB.trans (hc.below (B := w.heap.size) (fun k e => by omega) HB.size)
  clear hc hk_
  clear Hs2
  have Hs2 := N_
  clear N_
  replace Hs2 : Blk w39 gs2 60 #[.int .i64 ws[j].u, .int .i64 ws[j].q, .int .i64 ws[j].s, .int .i64 ws[j].n, .int .i64 ws[j].e] := Hs2
  refine Fw.s (Fw.val_assign rfl) rfl ?_
  refine Fw.nil ?_
  refine hK72 _ _ (Fw.FC.sub (f' := [(22, _), (21, _), (10, _), (67, _), (66, _), (65, _), (12, _), (11, _), (9, _), (7, _), (5, _)]) (.cons rfl (.cons rfl (.cons rfl (.cons rfl (.cons rfl (.cons rfl (.cons rfl (.cons rfl (.cons rfl (.cons rfl (.cons rfl .nil))))))))))) ?_)
  refine Fw.seq fun _ hK74 => ?_
  refine Fw.region ?_
  refine Fw.s (Fw.val_move rfl) rfl ?_
  refine Fw.s (Fw.Val.T (Fw.val_bin rfl rfl Fw.b_eql) (by rfl)) rfl ?_
  refine Fw.nil ?_
  refine hK74 _ _ ?_
  refine Fw.condT rfl ?_
  refine Fw.region ?_
  refine Fw.s (Fw.val_move rfl) rfl ?_
  refine Fw.ldA ag60 rfl (Fw.rdBlk Hs2) rfl rfl ?_
  refine Fw.s (Fw.val_move rfl) rfl ?_
  refine Fw.s (Fw.val_move rfl) rfl ?_
  refine Fw.call cf20 rfl rfl (usReport_any _ BR cp cg 1 [u] (Oi.us ws[j]) nw ((k : Int) + 1) HReg) ?_
  rintro e_ w40 ⟨rfl, H2, hc⟩
  refine ⟨_, rfl, ?_⟩
  obtain ⟨u2, hu2, hoi2⟩ := hoi.hear (List.getElem_mem hjl) nw (e' := ((k : Int) + 1)) ⟨by omega, by omega, by omega⟩
  rw [hu2] at H2
  have hk_ := HReg.kpc hc
  replace HAg := HAg.kpx hk_ rfl rfl rfl rfl rfl rfl
  replace HO := HO.kp hk_ rfl rfl
  replace HW := HW.kp hk_ rfl rfl
  replace Hx := Hx.kp hk_ rfl
  replace Hs2 := Hs2.kp hk_ rfl
  replace HB := HB.trans (hc.below (B := w.heap.size) (fun k e => by omega) HB.size)
  clear hc hk_ HReg
  have HReg := H2
  clear H2
  refine Fw.nil ?_
  refine Fw.X_blockN ?_
  exact hK27 _ _ ⟨u2, a, os, ws, nw, O_, oc, V_, wc⟩ ⟨HReg, HAg, HO, HW, hoi2, hga, (by omega), (by omega), (by omega), hdj, HB⟩ (.cons rfl (.cons rfl (.cons rfl (.cons rfl (.cons rfl (.cons rfl (.cons rfl (.cons rfl (.cons rfl .nil)))))))))
  rintro hlen
  refine Fw.nil ?_
  refine hK70 _ _ ?_
  refine Fw.condF rfl ?_
  refine Fw.skip ?_
  refine Fw.X_blockN ?_
  exact hK27 _ _ ⟨u, a, os, ws, nw, O_, oc, V_, wc⟩ ⟨HReg, HAg, HO, HW, (hoi.later (by omega)), hga, (by omega), (by omega), (by omega), hdj, HB⟩ (.cons rfl (.cons rfl (.cons rfl (.cons rfl (.cons rfl (.cons rfl (.cons rfl (.cons rfl (.cons rfl .nil)))))))))
  rintro kd8
  refine Fw.s (Fw.val_assign rfl) rfl ?_
  refine Fw.nil ?_
  refine hK68 _ _ ?_
  refine Fw.condF rfl ?_
  refine Fw.seq fun _ hK75 => ?_
  refine Fw.region ?_
  refine Fw.s2 (Fw.val_bin rfl rfl Fw.b_eql) rfl ?_ ?_
  rintro kd9
  refine Fw.s (Fw.val_assign rfl) rfl ?_
  refine Fw.nil ?_
  refine hK75 _ _ ?_
  refine Fw.condT rfl ?_
  refine Fw.region ?_
  refine Fw.s (Fw.val_move rfl) rfl ?_
  refine Fw.s (Fw.val_move rfl) rfl ?_
  refine Fw.call cf21 rfl rfl (proceed_any _ p pf pg 3 Oi.tE 0 a HAg hga nw) ?_
  rintro e_ w41 ⟨rfl, H2, hc⟩
  refine ⟨_, rfl, ?_⟩
  have hc2 : Chg (fun k => k = p ∨ k = pf) w8 w41 := (Chg.refl _ _).trans hc (fun _ _ e => .inl e)
  clear hc
  have hk_ := HAg.kp hc2
  replace HReg := HReg.kp hk_ rfl rfl
  replace HO := HO.kp hk_ rfl rfl
  replace HW := HW.kp hk_ rfl rfl
  replace Hx := Hx.kp hk_ rfl
  replace HB := HB.trans (hc2.below (B := w.heap.size) (fun k e => by omega) HB.size)
  clear hc2 hk_ HAg
  have HAg := H2
  clear H2
  refine Fw.nil ?_
  refine Fw.X_blockN ?_
  exact hK27 _ _ ⟨u, (Ag.proceed Oi.tE a nw), os, ws, nw, O_, oc, V_, wc⟩ ⟨HReg, HAg, HO, HW, ((hoi.later (by omega)).proceed nw), (hga.proceed nw), (by omega), (by rw [(Ag.proceed_n Oi.tE a nw).2.2]; omega), (by omega), hdj, HB⟩ (.cons rfl (.cons rfl (.cons rfl (.cons rfl (.cons rfl (.cons rfl (.cons rfl (.cons rfl (.cons rfl .nil)))))))))
  rintro kd9
  refine Fw.s (Fw.val_assign rfl) rfl ?_
  refine Fw.nil ?_
  refine hK75 _ _ ?_
  refine Fw.condF rfl ?_
  refine Fw.region ?_
  refine Fw.s (Fw.val_move rfl) rfl ?_
  refine Fw.s (Fw.val_move rfl) rfl ?_
  refine Fw.call cf22 rfl rfl (toggle_any _ p pf pg 3 Oi.tE 0 a HAg hga nw) ?_
  rintro e_ w42 ⟨rfl, H2, hc⟩
  refine ⟨_, rfl, ?_⟩
  have hc2 : Chg (fun k => k = p ∨ k = pf) w8 w42 := (Chg.refl _ _).trans hc (fun _ _ e => .inl e)
  clear hc
  have hk_ := HAg.kp hc2
  replace HReg := HReg.kp hk_ rfl rfl
  replace HO := HO.kp hk_ rfl rfl
  replace HW := HW.kp hk_ rfl rfl
  replace Hx := Hx.kp hk_ rfl
  replace HB := HB.trans (hc2.below (B := w.heap.size) (fun k e => by omega) HB.size)
  clear hc2 hk_ HAg
  have HAg := H2
  clear H2
  refine Fw.nil ?_
  refine Fw.X_blockN ?_
  exact hK27 _ _ ⟨u, (Ag.toggle 3 Oi.tE a nw), os, ws, nw, O_, oc, V_, wc⟩ ⟨HReg, HAg, HO, HW, ((hoi.later (by omega)).toggle nw), (hga.toggle nw), (by omega), (by rw [(Ag.toggle_n 3 Oi.tE a nw).2.2]; omega), (by omega), hdj, HB⟩ (.cons rfl (.cons rfl (.cons rfl (.cons rfl (.cons rfl (.cons rfl (.cons rfl (.cons rfl (.cons rfl .nil)))))))))
  rintro hlt
  refine Fw.nil ?_
  refine hK20 _ _ ?_
  refine Fw.seq fun _ hK77 => ?_
  refine Fw.condF rfl ?_
  refine Fw.exit ?_
  refine Fw.X_exit ?_
  refine Fw.X_exit ?_
  refine Fw.X_block ?_
  refine hK17 _ _ (Fw.FC.sub (f' := []) .nil ?_)
  refine Fw.seq fun _ hK78 => ?_
  refine Fw.region ?_
  refine Fw.s (Fw.val_assign rfl) rfl ?_
  refine Fw.nil ?_
  refine hK78 _ _ ?_
  refine Fw.ret ?_
  refine Fw.ret_ [.tmp 2] [_] Try.results3 (.tmp rfl .nil) ?_
  exact ⟨rfl, HB⟩

end Go.Proofs.Ytodhpooddmeghaa
