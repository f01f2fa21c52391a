/- Layer 9: the graph's functions. -/
import Derived.Test.YtodhpooddmeghaaRg
import Derived.Test.YtodhpooddmeghaaT09
namespace Go.Proofs.Ytodhpooddmeghaa
set_option linter.unusedSimpArgs false
set_option linter.unusedVariables false
open Go.RowKit

namespace Rg
theorem own_cell {w : World} {base e n c g : Nat} {kd : IntKind} {l : List Int} (h : w.ownsRow base e 1 (.slice (some ⟨g, 0, none⟩) n c) n (l.map (.int kd))) (i : Nat) (hi : i < l.length) : w.cell? ⟨g, i, none⟩ = some (.int kd l[i]) := by
  obtain ⟨ad, b, o, hA, hadd, hc⟩ := Fw.rdAtM (Rd.of_own h) i hi
  injection hA with hA; subst hA
  rw [Fw.add_flat, Nat.zero_add, Nat.mul_one] at hadd
  rw [hadd]; exact hc
end Rg
set_option maxRecDepth 100000 in
set_option maxHeartbeats 1000000 in
theorem nodes_any (w : World) (g : Nat) (N : Nat) (E : List Rg.Ed) (hG : Rg.GAt w g N E) : Calls Try.prog 29 #[.pointer (some ⟨g, 0, none⟩)] w fun e_ w' => e_ = .returned (.int .i64 (N : Int)) ∧ w = w' := by
  obtain ⟨Ae, ce, Ao, co, Ai, ci, svO, svI, hg⟩ := hG
  have HG := hg.blk
  refine Fw.calls Try.func29 rfl Try.ntmps29 rfl ?_
  refine Fw.seq fun _ hK1 => ?_
  refine Fw.region ?_
  refine Fw.s (Fw.val_assign rfl) rfl ?_
  refine Fw.nil ?_
  refine hK1 _ _ ?_
  refine Fw.seq fun _ hK2 => ?_
  refine Fw.region ?_
  refine Fw.s (Fw.val_move rfl) rfl ?_
  refine Fw.s (Fw.val_nil rfl) rfl ?_
  refine Fw.s (Fw.val_fieldAddr fl107_1 rfl rfl) rfl ?_
  refine Fw.ld sc105 rfl (HG.cell 1) rfl ?_
  refine Fw.s (Fw.val_len Try.underlying105 rfl) rfl ?_
  refine Fw.s (Fw.val_assign rfl) rfl ?_
  refine Fw.nil ?_
  refine hK2 _ _ (Fw.FC.sub (f' := [(2, _)]) (.cons rfl .nil) ?_)
  refine Fw.ret ?_
  refine Fw.ret_ [.tmp 2] [_] Try.results29 (.tmp rfl .nil) ?_
  exact ⟨rfl, rfl⟩

set_option maxRecDepth 100000 in
set_option maxHeartbeats 1000000 in
theorem edges_any (w : World) (g : Nat) (N : Nat) (E : List Rg.Ed) (hG : Rg.GAt w g N E) : Calls Try.prog 67 #[.pointer (some ⟨g, 0, none⟩)] w fun e_ w' => e_ = .returned (.int .i64 (E.length : Int)) ∧ w = w' := by
  obtain ⟨Ae, ce, Ao, co, Ai, ci, svO, svI, hg⟩ := hG
  have HG := hg.blk
  refine Fw.calls Try.func67 rfl Try.ntmps67 rfl ?_
  refine Fw.seq fun _ hK1 => ?_
  refine Fw.region ?_
  refine Fw.s (Fw.val_assign rfl) rfl ?_
  refine Fw.nil ?_
  refine hK1 _ _ ?_
  refine Fw.seq fun _ hK2 => ?_
  refine Fw.region ?_
  refine Fw.s (Fw.val_move rfl) rfl ?_
  refine Fw.s (Fw.val_nil rfl) rfl ?_
  refine Fw.s (Fw.val_fieldAddr fl107_0 rfl rfl) rfl ?_
  refine Fw.ld sc30 rfl (HG.cell 0) rfl ?_
  refine Fw.s (Fw.val_len Try.underlying30 rfl) rfl ?_
  refine Fw.s (Fw.val_assign rfl) rfl ?_
  refine Fw.nil ?_
  refine hK2 _ _ (Fw.FC.sub (f' := [(2, _)]) (.cons rfl .nil) ?_)
  refine Fw.ret ?_
  refine Fw.ret_ [.tmp 2] [_] Try.results67 (.tmp rfl .nil) ?_
  exact ⟨rfl, rfl⟩

set_option maxRecDepth 100000 in
set_option maxHeartbeats 1000000 in
theorem isNode_any (w : World) (g : Nat) (N : Nat) (E : List Rg.Ed) (hG : Rg.GAt w g N E) (v : Int) : Calls Try.prog 63 #[.pointer (some ⟨g, 0, none⟩), .int .i64 v] w fun e_ w' => e_ = .returned (.bool (decide (0 ≤ v ∧ v < N))) ∧ w = w' := by
  refine Fw.calls Try.func63 rfl Try.ntmps63 rfl ?_
  refine Fw.seq fun _ hK1 => ?_
  refine Fw.region ?_
  refine Fw.s (Fw.val_assign rfl) rfl ?_
  refine Fw.nil ?_
  refine hK1 _ _ ?_
  refine Fw.seq fun _ hK2 => ?_
  refine Fw.region ?_
  refine Fw.s (Fw.val_move rfl) rfl ?_
  refine Fw.s2 (Fw.val_bin rfl rfl Fw.b_geq) rfl ?_ ?_
  rintro h1
  refine Fw.s (Fw.val_move rfl) rfl ?_
  refine Fw.gT (d := 7) rfl rfl ?_
  refine Fw.s (Fw.val_move rfl) rfl ?_
  refine Fw.gT (d := 7) rfl rfl ?_
  refine Fw.s (Fw.val_move rfl) rfl ?_
  refine Fw.gT (d := 7) rfl rfl ?_
  refine Fw.call cf29 rfl rfl (nodes_any _ g N E hG) ?_
  rintro e_ _ ⟨rfl, rfl⟩
  refine ⟨_, rfl, ?_⟩
  refine Fw.gT (d := 7) rfl rfl ?_
  refine Fw.s2 (Fw.val_bin rfl rfl Fw.b_lss) rfl ?_ ?_
  rintro h2
  refine Fw.s (Fw.val_pickT rfl rfl) rfl ?_
  refine Fw.s (Fw.val_assign rfl) rfl ?_
  refine Fw.nil ?_
  refine hK2 _ _ (Fw.FC.sub (f' := [(4, _)]) (.cons rfl .nil) ?_)
  refine Fw.ret ?_
  refine Fw.ret_ [.tmp 4] [_] Try.results63 (.tmp rfl .nil) ?_
  exact ⟨ret_bool (by simp; omega), rfl⟩
  rintro h2
  refine Fw.s (Fw.val_pickT rfl rfl) rfl ?_
  refine Fw.s (Fw.val_assign rfl) rfl ?_
  refine Fw.nil ?_
  refine hK2 _ _ (Fw.FC.sub (f' := [(4, _)]) (.cons rfl .nil) ?_)
  refine Fw.ret ?_
  refine Fw.ret_ [.tmp 4] [_] Try.results63 (.tmp rfl .nil) ?_
  exact ⟨ret_bool (by simp; omega), rfl⟩
  rintro h1
  refine Fw.s (Fw.val_move rfl) rfl ?_
  refine Fw.gF (d := 7) rfl rfl rfl rfl ?_
  refine Fw.gF (d := 7) rfl rfl rfl rfl ?_
  refine Fw.gF (d := 7) rfl rfl rfl rfl ?_
  refine Fw.gF (d := 7) rfl rfl rfl rfl ?_
  refine Fw.s (Fw.val_pickF rfl rfl) rfl ?_
  refine Fw.s (Fw.val_assign rfl) rfl ?_
  refine Fw.nil ?_
  refine hK2 _ _ (Fw.FC.sub (f' := [(4, _)]) (.cons rfl .nil) ?_)
  refine Fw.ret ?_
  refine Fw.ret_ [.tmp 4] [_] Try.results63 (.tmp rfl .nil) ?_
  exact ⟨ret_bool (by simp; omega), rfl⟩

namespace Rg
def edR (E : List Ed) (i : Int) : Ed := (E[i.toNat]?).getD ⟨0, 0, 0⟩
end Rg
set_option maxRecDepth 100000 in
set_option maxHeartbeats 1000000 in
theorem edge_any (w : World) (g : Nat) (N : Nat) (E : List Rg.Ed) (hG : Rg.GAt w g N E) (i : Nat) (hi : i < E.length) : Calls Try.prog 54 #[.pointer (some ⟨g, 0, none⟩), .int .i64 i] w fun e_ w' => e_ = .returned (.tuple #[.agg E[i].cells.toArray, .bool true]) ∧ Below w.heap.size w w' := by
  obtain ⟨Ae, ce, Ao, co, Ai, ci, svO, svI, hg⟩ := hG
  have HG := hg.blk
  obtain ⟨ad, b, o, hA, hadd, HE⟩ := Fw.rdAt Rg.Ed.len (by decide) hg.edges i hi
  refine Fw.calls Try.func54 rfl Try.ntmps54 rfl ?_
  have HB := Below.refl (w.heap.size) w
  refine Fw.seq fun _ hK1 => ?_
  refine Fw.region ?_
  refine Fw.alloc ze29 rfl ?_
  intro w1 gXe egXe HXe hb
  have lgXe : w.heap.size ≤ gXe := by have := HB.size; omega
  replace HB := HB.trans (hb.mono HB.size)
  clear hb
  clear egXe
  refine Fw.s (Fw.val_assign rfl) rfl ?_
  refine Fw.nil ?_
  refine hK1 _ _ ?_
  refine Fw.seq fun _ hK2 => ?_
  refine Fw.seq fun _ hK3 => ?_
  refine Fw.region ?_
  refine Fw.s (Fw.val_move rfl) rfl ?_
  refine Fw.s (Fw.Val.F (Fw.val_bin rfl rfl Fw.b_lss) (by omega)) rfl ?_
  refine Fw.s (Fw.val_move rfl) rfl ?_
  refine Fw.gT (d := 8) rfl rfl ?_
  refine Fw.s (Fw.val_move rfl) rfl ?_
  refine Fw.gT (d := 8) rfl rfl ?_
  refine Fw.s (Fw.val_move rfl) rfl ?_
  refine Fw.gT (d := 8) rfl rfl ?_
  refine Fw.s (Fw.val_nil rfl) rfl ?_
  refine Fw.gT (d := 8) rfl rfl ?_
  refine Fw.s (Fw.val_fieldAddr fl107_0 rfl rfl) rfl ?_
  refine Fw.gT (d := 8) rfl rfl ?_
  refine Fw.ld sc30 rfl ((HG.low HB).cell 0) rfl ?_
  refine Fw.gT (d := 8) rfl rfl ?_
  refine Fw.s (Fw.val_len Try.underlying30 rfl) rfl ?_
  refine Fw.gT (d := 8) rfl rfl ?_
  refine Fw.s (Fw.Val.F (Fw.val_bin rfl rfl Fw.b_geq) (by omega)) rfl ?_
  refine Fw.s (Fw.val_pickF rfl rfl) rfl ?_
  refine Fw.nil ?_
  refine hK3 _ _ (Fw.FC.sub (f' := [(16, _), (4, _), (0, _), (1, _)]) (.cons rfl (.cons rfl (.cons rfl (.cons rfl .nil)))) ?_)
  refine Fw.condF rfl ?_
  refine Fw.skip ?_
  refine hK2 _ _ ?_
  refine Fw.seq fun _ hK4 => ?_
  refine Fw.region ?_
  refine Fw.s (Fw.val_move rfl) rfl ?_
  refine Fw.s (Fw.val_nil rfl) rfl ?_
  refine Fw.s (Fw.val_fieldAddr fl107_0 rfl rfl) rfl ?_
  refine Fw.ld sc30 rfl ((HG.low HB).cell 0) rfl ?_
  refine Fw.s (Fw.val_move rfl) rfl ?_
  refine Fw.s (Fw.val_indexR Try.underlying30 sz29 rfl hA rfl rfl hi hadd) rfl ?_
  refine Fw.ldA ag29 rfl ((HE.low HB)) rfl rfl ?_
  refine Fw.storeW sz29 rfl rfl HXe rfl rfl (by exact Fw.oneCells rfl) ?_
  intro w2 N_ hc
  replace HB := HB.trans (hc.below (B := w.heap.size) (fun k e => by omega) HB.size)
  clear hc
  clear HXe
  have HXe := N_
  clear N_
  refine Fw.s (Fw.val_assign rfl) rfl ?_
  refine Fw.nil ?_
  refine hK4 _ _ (Fw.FC.sub (f' := [(5, _), (4, _)]) (.cons rfl (.cons rfl .nil)) ?_)
  refine Fw.ret ?_
  refine Fw.ret_ [.cell 4 29, .tmp 5] [_, _] Try.results54 (Fw.ResL.cellM rfl ag29 (Fw.rdBlk HXe) rfl (.tmp rfl .nil)) ?_
  exact ⟨rfl, HB⟩

set_option maxRecDepth 100000 in
set_option maxHeartbeats 1000000 in
theorem edgeNo_any (w : World) (g : Nat) (N : Nat) (E : List Rg.Ed) (hG : Rg.GAt w g N E) (i : Int) (hi : ¬ (0 ≤ i ∧ i < E.length)) : Calls Try.prog 54 #[.pointer (some ⟨g, 0, none⟩), .int .i64 i] w fun e_ w' => e_ = .returned (.tuple #[.agg #[.int .i64 0, .int .i64 0, .int .i64 0], .bool false]) ∧ Below w.heap.size w w' := by
  obtain ⟨Ae, ce, Ao, co, Ai, ci, svO, svI, hg⟩ := hG
  have HG := hg.blk
  refine Fw.calls Try.func54 rfl Try.ntmps54 rfl ?_
  have HB := Below.refl (w.heap.size) w
  refine Fw.seq fun _ hK1 => ?_
  refine Fw.region ?_
  refine Fw.alloc ze29 rfl ?_
  intro w1 gXe egXe HXe hb
  have lgXe : w.heap.size ≤ gXe := by have := HB.size; omega
  replace HB := HB.trans (hb.mono HB.size)
  clear hb
  clear egXe
  refine Fw.s (Fw.val_assign rfl) rfl ?_
  refine Fw.nil ?_
  refine hK1 _ _ ?_
  refine Fw.seq fun _ hK2 => ?_
  refine Fw.seq fun _ hK3 => ?_
  refine Fw.region ?_
  refine Fw.s (Fw.val_move rfl) rfl ?_
  refine Fw.s2 (Fw.val_bin rfl rfl Fw.b_lss) rfl ?_ ?_
  rintro h1
  refine Fw.s (Fw.val_move rfl) rfl ?_
  refine Fw.gF (d := 8) rfl rfl rfl rfl ?_
  refine Fw.gF (d := 8) rfl rfl rfl rfl ?_
  refine Fw.gF (d := 8) rfl rfl rfl rfl ?_
  refine Fw.gF (d := 8) rfl rfl rfl rfl ?_
  refine Fw.gF (d := 8) rfl rfl rfl rfl ?_
  refine Fw.gF (d := 8) rfl rfl rfl rfl ?_
  refine Fw.gF (d := 8) rfl rfl rfl rfl ?_
  refine Fw.s (Fw.val_pickT rfl rfl) rfl ?_
  refine Fw.nil ?_
  refine hK3 _ _ (Fw.FC.sub (f' := [(16, _), (4, _), (0, _), (1, _)]) (.cons rfl (.cons rfl (.cons rfl (.cons rfl .nil)))) ?_)
  refine Fw.condT rfl ?_
  refine Fw.seq fun _ hK5 => ?_
  refine Fw.region ?_
  refine Fw.s (Fw.val_build (ps := []) rfl (bu29_)) rfl ?_
  refine Fw.storeW sz29 rfl rfl HXe rfl rfl (by exact Fw.oneCells rfl) ?_
  intro w2 N_ hc
  replace HB := HB.trans (hc.below (B := w.heap.size) (fun k e => by omega) HB.size)
  clear hc
  clear HXe
  have HXe := N_
  clear N_
  refine Fw.s (Fw.val_assign rfl) rfl ?_
  refine Fw.nil ?_
  refine hK5 _ _ ?_
  refine Fw.ret ?_
  refine Fw.X_ret ?_
  refine Fw.ret_ [.cell 4 29, .tmp 5] [_, _] Try.results54 (Fw.ResL.cellM rfl ag29 (Fw.rdBlk HXe) rfl (.tmp rfl .nil)) ?_
  exact ⟨rfl, HB⟩
  rintro h1
  refine Fw.s (Fw.val_move rfl) rfl ?_
  refine Fw.gT (d := 8) rfl rfl ?_
  refine Fw.s (Fw.val_move rfl) rfl ?_
  refine Fw.gT (d := 8) rfl rfl ?_
  refine Fw.s (Fw.val_move rfl) rfl ?_
  refine Fw.gT (d := 8) rfl rfl ?_
  refine Fw.s (Fw.val_nil rfl) rfl ?_
  refine Fw.gT (d := 8) rfl rfl ?_
  refine Fw.s (Fw.val_fieldAddr fl107_0 rfl rfl) rfl ?_
  refine Fw.gT (d := 8) rfl rfl ?_
  refine Fw.ld sc30 rfl ((HG.low HB).cell 0) rfl ?_
  refine Fw.gT (d := 8) rfl rfl ?_
  refine Fw.s (Fw.val_len Try.underlying30 rfl) rfl ?_
  refine Fw.gT (d := 8) rfl rfl ?_
  refine Fw.s (Fw.Val.T (Fw.val_bin rfl rfl Fw.b_geq) (by omega)) rfl ?_
  refine Fw.s (Fw.val_pickF rfl rfl) rfl ?_
  refine Fw.nil ?_
  refine hK3 _ _ (Fw.FC.sub (f' := [(16, _), (4, _), (0, _), (1, _)]) (.cons rfl (.cons rfl (.cons rfl (.cons rfl .nil)))) ?_)
  refine Fw.condT rfl ?_
  refine Fw.seq fun _ hK6 => ?_
  refine Fw.region ?_
  refine Fw.s (Fw.val_build (ps := []) rfl (bu29_)) rfl ?_
  refine Fw.storeW sz29 rfl rfl HXe rfl rfl (by exact Fw.oneCells rfl) ?_
  intro w3 N_ hc
  replace HB := HB.trans (hc.below (B := w.heap.size) (fun k e => by omega) HB.size)
  clear hc
  clear HXe
  have HXe := N_
  clear N_
  refine Fw.s (Fw.val_assign rfl) rfl ?_
  refine Fw.nil ?_
  refine hK6 _ _ ?_
  refine Fw.ret ?_
  refine Fw.X_ret ?_
  refine Fw.ret_ [.cell 4 29, .tmp 5] [_, _] Try.results54 (Fw.ResL.cellM rfl ag29 (Fw.rdBlk HXe) rfl (.tmp rfl .nil)) ?_
  exact ⟨rfl, HB⟩

namespace Rg
theorem tt_in {ts : List Int} {i : Nat} (h : i < ts.length) : tt ts i = if 1 ≤ ts[i] ∧ ts[i] ≤ 1048576 then ts[i] else Sp.INF := by unfold tt; rw [Sp.ix_get h]; simp [h]
theorem tt_out {ts : List Int} {i : Nat} (h : ¬ i < ts.length) : tt ts i = Sp.INF := by unfold tt; simp [h]
end Rg
set_option maxRecDepth 100000 in
set_option maxHeartbeats 1000000 in
theorem travelTime_any (w : World) (A : Option Addr) (ts : List Int) (c : Nat) (h : Rd w A (ts.map (.int .i64))) (i : Nat) : Calls Try.prog 68 #[.slice A ts.length c, .int .i64 i] w fun e_ w' => e_ = .returned (.int .i64 (Rg.tt ts i)) ∧ w = w' := by
  by_cases hi : i < ts.length
  obtain ⟨ad, b, o, hA, hadd, HE⟩ := Fw.rdAtM h i hi
  refine Fw.calls Try.func68 rfl Try.ntmps68 rfl ?_
  refine Fw.seq fun _ hK1 => ?_
  refine Fw.region ?_
  refine Fw.s (Fw.val_assign rfl) rfl ?_
  refine Fw.nil ?_
  refine hK1 _ _ ?_
  refine Fw.seq fun _ hK2 => ?_
  refine Fw.seq fun _ hK3 => ?_
  refine Fw.region ?_
  refine Fw.s (Fw.val_move rfl) rfl ?_
  refine Fw.s (Fw.val_move rfl) rfl ?_
  refine Fw.s (Fw.val_len Try.underlying123 rfl) rfl ?_
  refine Fw.s (Fw.Val.F (Fw.val_bin rfl rfl Fw.b_geq) (by omega)) rfl ?_
  refine Fw.s (Fw.val_move rfl) rfl ?_
  refine Fw.gT (d := 9) rfl rfl ?_
  refine Fw.s (Fw.val_move rfl) rfl ?_
  refine Fw.gT (d := 9) rfl rfl ?_
  refine Fw.s (Fw.val_move rfl) rfl ?_
  refine Fw.gT (d := 9) rfl rfl ?_
  refine Fw.s (Fw.val_indexR Try.underlying123 sz2 rfl hA rfl rfl hi hadd) rfl ?_
  refine Fw.gT (d := 9) rfl rfl ?_
  refine Fw.ld sc2 rfl (HE) rfl ?_
  refine Fw.gT (d := 9) rfl rfl ?_
  refine Fw.s2 (Fw.val_bin rfl rfl Fw.b_lss) rfl ?_ ?_
  rintro h1
  refine Fw.s (Fw.val_pickF rfl rfl) rfl ?_
  refine Fw.s (Fw.val_move rfl) rfl ?_
  refine Fw.gF (d := 16) rfl rfl rfl rfl ?_
  refine Fw.gF (d := 16) rfl rfl rfl rfl ?_
  refine Fw.gF (d := 16) rfl rfl rfl rfl ?_
  refine Fw.gF (d := 16) rfl rfl rfl rfl ?_
  refine Fw.gF (d := 16) rfl rfl rfl rfl ?_
  refine Fw.s (Fw.val_pickT rfl rfl) rfl ?_
  refine Fw.nil ?_
  refine hK3 _ _ (Fw.FC.sub (f' := [(22, _), (0, _), (1, _)]) (.cons rfl (.cons rfl (.cons rfl .nil))) ?_)
  refine Fw.condT rfl ?_
  refine Fw.seq fun _ hK6 => ?_
  refine Fw.region ?_
  refine Fw.s (Fw.val_assign rfl) rfl ?_
  refine Fw.nil ?_
  refine hK6 _ _ ?_
  refine Fw.ret ?_
  refine Fw.X_ret ?_
  refine Fw.ret_ [.tmp 4] [_] Try.results68 (.tmp rfl .nil) ?_
  exact ⟨ret_int (by rw [Rg.tt_in hi, if_neg (by omega)]), rfl⟩
  rintro h1
  refine Fw.s (Fw.val_pickF rfl rfl) rfl ?_
  refine Fw.s (Fw.val_move rfl) rfl ?_
  refine Fw.gT (d := 16) rfl rfl ?_
  refine Fw.s (Fw.val_move rfl) rfl ?_
  refine Fw.gT (d := 16) rfl rfl ?_
  refine Fw.s (Fw.val_move rfl) rfl ?_
  refine Fw.gT (d := 16) rfl rfl ?_
  refine Fw.s (Fw.val_indexR Try.underlying123 sz2 rfl hA rfl rfl hi hadd) rfl ?_
  refine Fw.gT (d := 16) rfl rfl ?_
  refine Fw.ld sc2 rfl (HE) rfl ?_
  refine Fw.gT (d := 16) rfl rfl ?_
  refine Fw.s2 (Fw.val_bin rfl rfl Fw.b_gtr) rfl ?_ ?_
  rintro h2
  refine Fw.s (Fw.val_pickF rfl rfl) rfl ?_
  refine Fw.nil ?_
  refine hK3 _ _ (Fw.FC.sub (f' := [(22, _), (0, _), (1, _)]) (.cons rfl (.cons rfl (.cons rfl .nil))) ?_)
  refine Fw.condT rfl ?_
  refine Fw.seq fun _ hK9 => ?_
  refine Fw.region ?_
  refine Fw.s (Fw.val_assign rfl) rfl ?_
  refine Fw.nil ?_
  refine hK9 _ _ ?_
  refine Fw.ret ?_
  refine Fw.X_ret ?_
  refine Fw.ret_ [.tmp 4] [_] Try.results68 (.tmp rfl .nil) ?_
  exact ⟨ret_int (by rw [Rg.tt_in hi, if_neg (by omega)]), rfl⟩
  rintro h2
  refine Fw.s (Fw.val_pickF rfl rfl) rfl ?_
  refine Fw.nil ?_
  refine hK3 _ _ (Fw.FC.sub (f' := [(22, _), (0, _), (1, _)]) (.cons rfl (.cons rfl (.cons rfl .nil))) ?_)
  refine Fw.condF rfl ?_
  refine Fw.skip ?_
  refine hK2 _ _ ?_
  refine Fw.seq fun _ hK10 => ?_
  refine Fw.region ?_
  refine Fw.s (Fw.val_move rfl) rfl ?_
  refine Fw.s (Fw.val_move rfl) rfl ?_
  refine Fw.s (Fw.val_indexR Try.underlying123 sz2 rfl hA rfl rfl hi hadd) rfl ?_
  refine Fw.ld sc2 rfl (HE) rfl ?_
  refine Fw.s (Fw.val_assign rfl) rfl ?_
  refine Fw.nil ?_
  refine hK10 _ _ (Fw.FC.sub (f' := [(4, _)]) (.cons rfl .nil) ?_)
  refine Fw.ret ?_
  refine Fw.ret_ [.tmp 4] [_] Try.results68 (.tmp rfl .nil) ?_
  exact ⟨ret_int (by rw [Rg.tt_in hi, if_pos (by omega)]), rfl⟩
  refine Fw.calls Try.func68 rfl Try.ntmps68 rfl ?_
  refine Fw.seq fun _ hK1 => ?_
  refine Fw.region ?_
  refine Fw.s (Fw.val_assign rfl) rfl ?_
  refine Fw.nil ?_
  refine hK1 _ _ ?_
  refine Fw.seq fun _ hK2 => ?_
  refine Fw.seq fun _ hK3 => ?_
  refine Fw.region ?_
  refine Fw.s (Fw.val_move rfl) rfl ?_
  refine Fw.s (Fw.val_move rfl) rfl ?_
  refine Fw.s (Fw.val_len Try.underlying123 rfl) rfl ?_
  refine Fw.s (Fw.Val.T (Fw.val_bin rfl rfl Fw.b_geq) (by omega)) rfl ?_
  refine Fw.s (Fw.val_move rfl) rfl ?_
  refine Fw.gF (d := 9) rfl rfl rfl rfl ?_
  refine Fw.gF (d := 9) rfl rfl rfl rfl ?_
  refine Fw.gF (d := 9) rfl rfl rfl rfl ?_
  refine Fw.gF (d := 9) rfl rfl rfl rfl ?_
  refine Fw.gF (d := 9) rfl rfl rfl rfl ?_
  refine Fw.s (Fw.val_pickT rfl rfl) rfl ?_
  refine Fw.s (Fw.val_move rfl) rfl ?_
  refine Fw.gF (d := 16) rfl rfl rfl rfl ?_
  refine Fw.gF (d := 16) rfl rfl rfl rfl ?_
  refine Fw.gF (d := 16) rfl rfl rfl rfl ?_
  refine Fw.gF (d := 16) rfl rfl rfl rfl ?_
  refine Fw.gF (d := 16) rfl rfl rfl rfl ?_
  refine Fw.s (Fw.val_pickT rfl rfl) rfl ?_
  refine Fw.nil ?_
  refine hK3 _ _ (Fw.FC.sub (f' := [(22, _), (0, _), (1, _)]) (.cons rfl (.cons rfl (.cons rfl .nil))) ?_)
  refine Fw.condT rfl ?_
  refine Fw.seq fun _ hK4 => ?_
  refine Fw.region ?_
  refine Fw.s (Fw.val_assign rfl) rfl ?_
  refine Fw.nil ?_
  refine hK4 _ _ ?_
  refine Fw.ret ?_
  refine Fw.X_ret ?_
  refine Fw.ret_ [.tmp 4] [_] Try.results68 (.tmp rfl .nil) ?_
  exact ⟨ret_int (Rg.tt_out hi).symm, rfl⟩

namespace Rg
theorem tts_step {n k : Nat} {ts : List Int} (hk : k < n) : (tts k ts ++ List.replicate (n - k) 0).set k (tt ts k) = tts (k + 1) ts ++ List.replicate (n - (k + 1)) 0 := by
  have h1 : (tts k ts).length = k := tts_len k ts
  rw [List.set_append_right _ _ (by omega), h1, Nat.sub_self, show n - k = (n - (k + 1)) + 1 by omega, List.replicate_succ, List.set_cons_zero]
  unfold tts
  rw [List.range_succ, List.map_append, List.append_assoc]
  rfl
end Rg
set_option maxRecDepth 100000 in
set_option maxHeartbeats 1000000 in
theorem travelTimes_any (w : World) (g : Nat) (N : Nat) (E : List Rg.Ed) (hG : Rg.GAt w g N E) (hEl : E.length ≤ 65536) (A : Option Addr) (ts : List Int) (c : Nat) (h : Rd w A (ts.map (.int .i64))) : Calls Try.prog 64 #[.pointer (some ⟨g, 0, none⟩), .slice A ts.length c] w fun e_ w' => ∃ gT c', e_ = .returned (.slice (some ⟨gT, 0, none⟩) E.length c') ∧ w'.ownsRow w.heap.size 2 1 (.slice (some ⟨gT, 0, none⟩) E.length c') E.length ((Rg.tts E.length ts).map (.int .i64)) ∧ Below w.heap.size w w' := by
  refine Fw.calls Try.func64 rfl Try.ntmps64 rfl ?_
  have HB := Below.refl (w.heap.size) w
  refine Fw.seq fun _ hK1 => ?_
  refine Fw.region ?_
  refine Fw.s (Fw.val_assign rfl) rfl ?_
  refine Fw.nil ?_
  refine hK1 _ _ ?_
  refine Fw.seq fun _ hK2 => ?_
  refine Fw.region ?_
  refine Fw.s (Fw.val_move rfl) rfl ?_
  refine Fw.call cf67 rfl rfl (edges_any _ g N E (hG.low HB)) ?_
  rintro e_ _ ⟨rfl, rfl⟩
  refine ⟨_, rfl, ?_⟩
  refine Fw.makeG E.length sl123 zi2 rfl rfl rfl rfl (by omega) (by unfold maxLen; omega) HB.size rfl ?_
  intro w1 gL egL HL hb
  rw [Fw.made (cells := fun (x : Int) => [Value.int .i64 x]) (m := 1) (0 : Int) (Value.cells (.int .i64 0)) rfl rfl] at HL
  have lgL : w.heap.size ≤ gL := by have := HB.size; omega
  replace HB := HB.trans (hb.mono HB.size)
  clear hb
  clear egL
  replace HL : World.ownsRow w1 w.heap.size 2 1 (.slice (some ⟨gL, 0, none⟩) E.length E.length) E.length ((Rg.tts 0 ts ++ List.replicate (E.length - 0) 0).map (.int .i64)) := by rw [Nat.sub_zero]; simpa [Rg.tts, List.flatMap_replicate] using HL
  refine Fw.s (Fw.val_assign rfl) rfl ?_
  refine Fw.nil ?_
  refine hK2 _ _ ?_
  refine Fw.seq fun _ hK3 => ?_
  refine Fw.seq fun _ hK4 => ?_
  refine Fw.region ?_
  refine Fw.s (Fw.val_move rfl) rfl ?_
  refine Fw.s (Fw.val_len Try.underlying123 rfl) rfl ?_
  refine Fw.s (Fw.val_move rfl) rfl ?_
  refine Fw.nil ?_
  refine hK4 _ _ ?_
  refine Fw.block ?_
  refine Fw.loop (fun m_ f_ W_ => ∃ (k : Nat), m_ = E.length - k ∧ k ≤ E.length ∧ World.ownsRow W_ w.heap.size 2 1 (.slice (some ⟨gL, 0, none⟩) E.length E.length) E.length ((Rg.tts k ts ++ List.replicate (E.length - k) 0).map (.int .i64)) ∧ Below (w.heap.size) w W_ ∧ f_ = [(12, .int .i64 k), (11, .int .i64 E.length), (5, .slice (some ⟨gL, 0, none⟩) E.length E.length), (1, .slice A ts.length c)]) ⟨_, _, ⟨0, rfl, Nat.zero_le _, HL, HB, rfl⟩, (.cons rfl (.cons rfl (.cons rfl (.cons rfl .nil))))⟩ ?_
  clear HL HB
  rintro m5_ _ w2 ⟨k, hm5_, hkn, HL, HB, rfl⟩
  refine Fw.seq fun _ hK6 => ?_
  refine Fw.region ?_
  refine Fw.s2 (Fw.val_bin rfl rfl Fw.b_lss) rfl ?_ ?_
  rintro hlt
  refine Fw.nil ?_
  refine hK6 _ _ ?_
  refine Fw.seq fun _ hK8 => ?_
  refine Fw.condT rfl ?_
  refine Fw.skip ?_
  refine hK8 _ _ ?_
  refine Fw.seq fun _ hK9 => ?_
  refine Fw.block ?_
  refine Fw.seq fun _ hK10 => ?_
  refine Fw.region ?_
  refine Fw.s (Fw.val_move rfl) rfl ?_
  refine Fw.s (Fw.val_assign rfl) rfl ?_
  refine Fw.nil ?_
  refine hK10 _ _ ?_
  have hk : k < E.length := by omega
  refine Fw.region ?_
  refine Fw.s (Fw.val_move rfl) rfl ?_
  refine Fw.s (Fw.val_move rfl) rfl ?_
  refine Fw.s (Fw.val_move rfl) rfl ?_
  refine Fw.s (Fw.val_move rfl) rfl ?_
  refine Fw.call cf68 rfl rfl (travelTime_any _ A ts c (h.low HB) k) ?_
  rintro e_ _ ⟨rfl, rfl⟩
  refine ⟨_, rfl, ?_⟩
  have EW11 := True.intro
  refine Fw.s (Fw.val_indexR Try.underlying123 sz2 rfl rfl rfl rfl hk (by rw [Fw.add_flat, Nat.zero_add, Nat.mul_one])) rfl ?_
  refine Fw.storeR sz2 rfl rfl HL (by simp [Rg.tts_len]; omega) rfl rfl ?_
  intro w3 N_ hc
  replace HB := HB.trans (hc.below (B := w.heap.size) (fun k e => by omega) HB.size)
  clear hc
  clear HL EW11
  have HL := N_
  clear N_
  replace HL : World.ownsRow w3 w.heap.size 2 1 (.slice (some ⟨gL, 0, none⟩) E.length E.length) E.length ((Rg.tts (k + 1) ts ++ List.replicate (E.length - (k + 1)) 0).map (.int .i64)) := by rw [← Rg.tts_step hk]; simpa using HL
  refine Fw.nil ?_
  refine Fw.X_blockN ?_
  refine hK9 _ _ (Fw.FC.sub (f' := [(12, _), (11, _), (5, _), (1, _)]) (.cons rfl (.cons rfl (.cons rfl (.cons rfl .nil)))) ?_)
  refine Fw.region ?_
  refine Fw.s (Fw.val_bin rfl rfl (Fw.b_add (Fw.i64_ok (by omega)))) rfl ?_
  refine Fw.s (Fw.val_move rfl) rfl ?_
  refine Fw.nil ?_
  refine Fw.roundEnd _ _ (by omega) ⟨k + 1, rfl, by omega, HL, HB, rfl⟩ (.cons rfl (.cons rfl (.cons rfl (.cons rfl .nil))))
  rintro hlt
  refine Fw.nil ?_
  refine hK6 _ _ ?_
  refine Fw.seq fun _ hK13 => ?_
  refine Fw.condF rfl ?_
  refine Fw.exit ?_
  refine Fw.X_exit ?_
  refine Fw.X_exit ?_
  refine Fw.X_block ?_
  refine hK3 _ _ ?_
  refine Fw.seq fun _ hK14 => ?_
  refine Fw.region ?_
  refine Fw.s (Fw.val_move rfl) rfl ?_
  refine Fw.s (Fw.val_assign rfl) rfl ?_
  refine Fw.nil ?_
  refine hK14 _ _ ?_
  refine Fw.ret ?_
  refine Fw.ret_ [.tmp 4] [_] Try.results64 (.tmp rfl .nil) ?_
  have hk : k = E.length := by omega
  subst hk
  rw [Nat.sub_self] at HL
  exact ⟨_, _, rfl, by simpa using HL, HB⟩

end Go.Proofs.Ytodhpooddmeghaa
