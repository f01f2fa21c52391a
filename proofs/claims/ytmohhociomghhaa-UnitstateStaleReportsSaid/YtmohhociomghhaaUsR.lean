/- Layer 27: the small functions of the reference. -/
import Derived.Test.YtmohhociomghhaaUsE
namespace Go.Proofs.Ytmohhociomghhaa
set_option linter.unusedSimpArgs false
set_option linter.unusedVariables false
open Go.RowKit

set_option maxRecDepth 100000 in
set_option maxHeartbeats 1000000 in
theorem rnode_any (n : Int) (w : World) : Calls Try.prog 50 #[.int .i64 n] w fun e w' => e = .returned (.bool (Us.nodeB n)) ∧ w = w' := by
  refine Fw.calls Try.func50 rfl Try.ntmps50 rfl ?_
  refine Fw.seq fun _ hK1 => ?_
  refine Fw.region ?_
  refine Fw.s (Fw.val_assign rfl) rfl ?_
  refine Fw.nil ?_
  refine hK1 _ _ ?_
  refine Fw.seq fun _ hK2 => ?_
  refine Fw.region ?_
  refine Fw.s (Fw.val_move rfl) rfl ?_
  refine Fw.s2 (Fw.val_bin rfl rfl Fw.b_geq) rfl ?_ ?_
  · rintro hq_
    refine Fw.s (Fw.val_move rfl) rfl ?_
    refine Fw.gT (d := 5) rfl rfl ?_
    refine Fw.s (Fw.val_move rfl) rfl ?_
    refine Fw.gT (d := 5) rfl rfl ?_
    refine Fw.s2 (Fw.val_bin rfl rfl Fw.b_lss) rfl ?_ ?_
    · rintro hq_
      refine Fw.s (Fw.val_pickT rfl rfl) rfl ?_
      refine Fw.s (Fw.val_assign rfl) rfl ?_
      refine Fw.nil ?_
      refine hK2 _ _ (Fw.FC.sub (f' := [(2, _)]) (.cons rfl .nil) ?_)
      refine Fw.ret ?_
      refine Fw.ret_ [.tmp 2] [_] Try.results50 (.tmp rfl .nil) ?_
      rw [show Us.nodeB n = true from decide_eq_true (by omega)]
      exact ⟨rfl, rfl⟩
    · rintro hq_
      refine Fw.s (Fw.val_pickT rfl rfl) rfl ?_
      refine Fw.s (Fw.val_assign rfl) rfl ?_
      refine Fw.nil ?_
      refine hK2 _ _ (Fw.FC.sub (f' := [(2, _)]) (.cons rfl .nil) ?_)
      refine Fw.ret ?_
      refine Fw.ret_ [.tmp 2] [_] Try.results50 (.tmp rfl .nil) ?_
      rw [show Us.nodeB n = false from decide_eq_false (by omega)]
      exact ⟨rfl, rfl⟩
  · rintro hq_
    refine Fw.s (Fw.val_move rfl) rfl ?_
    refine Fw.gF (d := 5) rfl rfl rfl rfl ?_
    refine Fw.gF (d := 5) rfl rfl rfl rfl ?_
    refine Fw.s (Fw.val_pickF rfl rfl) rfl ?_
    refine Fw.s (Fw.val_assign rfl) rfl ?_
    refine Fw.nil ?_
    refine hK2 _ _ (Fw.FC.sub (f' := [(2, _)]) (.cons rfl .nil) ?_)
    refine Fw.ret ?_
    refine Fw.ret_ [.tmp 2] [_] Try.results50 (.tmp rfl .nil) ?_
    rw [show Us.nodeB n = false from decide_eq_false (by omega)]
    exact ⟨rfl, rfl⟩

set_option maxRecDepth 100000 in
set_option maxHeartbeats 1000000 in
theorem rsays_any (n : Int) (w : World) : Calls Try.prog 51 #[.int .i64 n] w fun e w' => e = .returned (.bool (Us.says n)) ∧ w = w' := by
  refine Fw.calls Try.func51 rfl Try.ntmps51 rfl ?_
  refine Fw.seq fun _ hK1 => ?_
  refine Fw.region ?_
  refine Fw.s (Fw.val_assign rfl) rfl ?_
  refine Fw.nil ?_
  refine hK1 _ _ ?_
  refine Fw.seq fun _ hK2 => ?_
  refine Fw.region ?_
  refine Fw.s (Fw.val_move rfl) rfl ?_
  refine Fw.s2 (Fw.val_bin rfl rfl Fw.b_eql) rfl ?_ ?_
  · rintro hq_
    refine Fw.s (Fw.val_move rfl) rfl ?_
    refine Fw.gF (d := 5) rfl rfl rfl rfl ?_
    refine Fw.gF (d := 5) rfl rfl rfl rfl ?_
    refine Fw.s (Fw.val_pickT rfl rfl) rfl ?_
    refine Fw.s (Fw.val_move rfl) rfl ?_
    refine Fw.gF (d := 9) rfl rfl rfl rfl ?_
    refine Fw.gF (d := 9) rfl rfl rfl rfl ?_
    refine Fw.s (Fw.val_pickT rfl rfl) rfl ?_
    refine Fw.s (Fw.val_move rfl) rfl ?_
    refine Fw.gF (d := 13) rfl rfl rfl rfl ?_
    refine Fw.gF (d := 13) rfl rfl rfl rfl ?_
    refine Fw.s (Fw.val_pickT rfl rfl) rfl ?_
    refine Fw.s (Fw.val_move rfl) rfl ?_
    refine Fw.gF (d := 17) rfl rfl rfl rfl ?_
    refine Fw.gF (d := 17) rfl rfl rfl rfl ?_
    refine Fw.s (Fw.val_pickT rfl rfl) rfl ?_
    refine Fw.s (Fw.val_assign rfl) rfl ?_
    refine Fw.nil ?_
    refine hK2 _ _ (Fw.FC.sub (f' := [(2, _)]) (.cons rfl .nil) ?_)
    refine Fw.ret ?_
    refine Fw.ret_ [.tmp 2] [_] Try.results51 (.tmp rfl .nil) ?_
    rw [show Us.says n = true from decide_eq_true (by omega)]
    exact ⟨rfl, rfl⟩
  · rintro hq_
    refine Fw.s (Fw.val_move rfl) rfl ?_
    refine Fw.gT (d := 5) rfl rfl ?_
    refine Fw.s (Fw.val_move rfl) rfl ?_
    refine Fw.gT (d := 5) rfl rfl ?_
    refine Fw.s2 (Fw.val_bin rfl rfl Fw.b_eql) rfl ?_ ?_
    · rintro hq_
      refine Fw.s (Fw.val_pickF rfl rfl) rfl ?_
      refine Fw.s (Fw.val_move rfl) rfl ?_
      refine Fw.gF (d := 9) rfl rfl rfl rfl ?_
      refine Fw.gF (d := 9) rfl rfl rfl rfl ?_
      refine Fw.s (Fw.val_pickT rfl rfl) rfl ?_
      refine Fw.s (Fw.val_move rfl) rfl ?_
      refine Fw.gF (d := 13) rfl rfl rfl rfl ?_
      refine Fw.gF (d := 13) rfl rfl rfl rfl ?_
      refine Fw.s (Fw.val_pickT rfl rfl) rfl ?_
      refine Fw.s (Fw.val_move rfl) rfl ?_
      refine Fw.gF (d := 17) rfl rfl rfl rfl ?_
      refine Fw.gF (d := 17) rfl rfl rfl rfl ?_
      refine Fw.s (Fw.val_pickT rfl rfl) rfl ?_
      refine Fw.s (Fw.val_assign rfl) rfl ?_
      refine Fw.nil ?_
      refine hK2 _ _ (Fw.FC.sub (f' := [(2, _)]) (.cons rfl .nil) ?_)
      refine Fw.ret ?_
      refine Fw.ret_ [.tmp 2] [_] Try.results51 (.tmp rfl .nil) ?_
      rw [show Us.says n = true from decide_eq_true (by omega)]
      exact ⟨rfl, rfl⟩
    · rintro hq_
      refine Fw.s (Fw.val_pickF rfl rfl) rfl ?_
      refine Fw.s (Fw.val_move rfl) rfl ?_
      refine Fw.gT (d := 9) rfl rfl ?_
      refine Fw.s (Fw.val_move rfl) rfl ?_
      refine Fw.gT (d := 9) rfl rfl ?_
      refine Fw.s2 (Fw.val_bin rfl rfl Fw.b_eql) rfl ?_ ?_
      · rintro hq_
        refine Fw.s (Fw.val_pickF rfl rfl) rfl ?_
        refine Fw.s (Fw.val_move rfl) rfl ?_
        refine Fw.gF (d := 13) rfl rfl rfl rfl ?_
        refine Fw.gF (d := 13) rfl rfl rfl rfl ?_
        refine Fw.s (Fw.val_pickT rfl rfl) rfl ?_
        refine Fw.s (Fw.val_move rfl) rfl ?_
        refine Fw.gF (d := 17) rfl rfl rfl rfl ?_
        refine Fw.gF (d := 17) rfl rfl rfl rfl ?_
        refine Fw.s (Fw.val_pickT rfl rfl) rfl ?_
        refine Fw.s (Fw.val_assign rfl) rfl ?_
        refine Fw.nil ?_
        refine hK2 _ _ (Fw.FC.sub (f' := [(2, _)]) (.cons rfl .nil) ?_)
        refine Fw.ret ?_
        refine Fw.ret_ [.tmp 2] [_] Try.results51 (.tmp rfl .nil) ?_
        rw [show Us.says n = true from decide_eq_true (by omega)]
        exact ⟨rfl, rfl⟩
      · rintro hq_
        refine Fw.s (Fw.val_pickF rfl rfl) rfl ?_
        refine Fw.s (Fw.val_move rfl) rfl ?_
        refine Fw.gT (d := 13) rfl rfl ?_
        refine Fw.s (Fw.val_move rfl) rfl ?_
        refine Fw.gT (d := 13) rfl rfl ?_
        refine Fw.s2 (Fw.val_bin rfl rfl Fw.b_eql) rfl ?_ ?_
        · rintro hq_
          refine Fw.s (Fw.val_pickF rfl rfl) rfl ?_
          refine Fw.s (Fw.val_move rfl) rfl ?_
          refine Fw.gF (d := 17) rfl rfl rfl rfl ?_
          refine Fw.gF (d := 17) rfl rfl rfl rfl ?_
          refine Fw.s (Fw.val_pickT rfl rfl) rfl ?_
          refine Fw.s (Fw.val_assign rfl) rfl ?_
          refine Fw.nil ?_
          refine hK2 _ _ (Fw.FC.sub (f' := [(2, _)]) (.cons rfl .nil) ?_)
          refine Fw.ret ?_
          refine Fw.ret_ [.tmp 2] [_] Try.results51 (.tmp rfl .nil) ?_
          rw [show Us.says n = true from decide_eq_true (by omega)]
          exact ⟨rfl, rfl⟩
        · rintro hq_
          refine Fw.s (Fw.val_pickF rfl rfl) rfl ?_
          refine Fw.s (Fw.val_move rfl) rfl ?_
          refine Fw.gT (d := 17) rfl rfl ?_
          refine Fw.s (Fw.val_move rfl) rfl ?_
          refine Fw.gT (d := 17) rfl rfl ?_
          refine Fw.s2 (Fw.val_bin rfl rfl Fw.b_eql) rfl ?_ ?_
          · rintro hq_
            refine Fw.s (Fw.val_pickF rfl rfl) rfl ?_
            refine Fw.s (Fw.val_assign rfl) rfl ?_
            refine Fw.nil ?_
            refine hK2 _ _ (Fw.FC.sub (f' := [(2, _)]) (.cons rfl .nil) ?_)
            refine Fw.ret ?_
            refine Fw.ret_ [.tmp 2] [_] Try.results51 (.tmp rfl .nil) ?_
            rw [show Us.says n = true from decide_eq_true (by omega)]
            exact ⟨rfl, rfl⟩
          · rintro hq_
            refine Fw.s (Fw.val_pickF rfl rfl) rfl ?_
            refine Fw.s (Fw.val_assign rfl) rfl ?_
            refine Fw.nil ?_
            refine hK2 _ _ (Fw.FC.sub (f' := [(2, _)]) (.cons rfl .nil) ?_)
            refine Fw.ret ?_
            refine Fw.ret_ [.tmp 2] [_] Try.results51 (.tmp rfl .nil) ?_
            rw [show Us.says n = false from decide_eq_false (by omega)]
            exact ⟨rfl, rfl⟩

set_option maxRecDepth 100000 in
set_option maxHeartbeats 1000000 in
theorem rthere_any (w : World) (A : Option Addr) (l : List Us.U) (c : Nat) (id : Int) : Calls Try.prog 49 #[.slice A l.length c, .int .i64 id] w fun e w' => e = .returned (.bool (Us.there l id)) ∧ w = w' := by
  refine Fw.calls Try.func49 rfl Try.ntmps49 rfl ?_
  refine Fw.seq fun _ hK1 => ?_
  refine Fw.region ?_
  refine Fw.s (Fw.val_assign rfl) rfl ?_
  refine Fw.nil ?_
  refine hK1 _ _ ?_
  refine Fw.seq fun _ hK2 => ?_
  refine Fw.region ?_
  refine Fw.s (Fw.val_move rfl) rfl ?_
  refine Fw.s2 (Fw.val_bin rfl rfl Fw.b_geq) rfl ?_ ?_
  · rintro hq_
    refine Fw.s (Fw.val_move rfl) rfl ?_
    refine Fw.gT (d := 7) rfl rfl ?_
    refine Fw.s (Fw.val_move rfl) rfl ?_
    refine Fw.gT (d := 7) rfl rfl ?_
    refine Fw.s (Fw.val_move rfl) rfl ?_
    refine Fw.gT (d := 7) rfl rfl ?_
    refine Fw.s (Fw.val_len Try.underlying28 rfl) rfl ?_
    refine Fw.gT (d := 7) rfl rfl ?_
    refine Fw.s2 (Fw.val_bin rfl rfl Fw.b_lss) rfl ?_ ?_
    · rintro hq_
      refine Fw.s (Fw.val_pickT rfl rfl) rfl ?_
      refine Fw.s (Fw.val_assign rfl) rfl ?_
      refine Fw.nil ?_
      refine hK2 _ _ (Fw.FC.sub (f' := [(4, _)]) (.cons rfl .nil) ?_)
      refine Fw.ret ?_
      refine Fw.ret_ [.tmp 4] [_] Try.results49 (.tmp rfl .nil) ?_
      rw [show Us.there l id = true from decide_eq_true (by omega)]
      exact ⟨rfl, rfl⟩
    · rintro hq_
      refine Fw.s (Fw.val_pickT rfl rfl) rfl ?_
      refine Fw.s (Fw.val_assign rfl) rfl ?_
      refine Fw.nil ?_
      refine hK2 _ _ (Fw.FC.sub (f' := [(4, _)]) (.cons rfl .nil) ?_)
      refine Fw.ret ?_
      refine Fw.ret_ [.tmp 4] [_] Try.results49 (.tmp rfl .nil) ?_
      rw [show Us.there l id = false from decide_eq_false (by omega)]
      exact ⟨rfl, rfl⟩
  · rintro hq_
    refine Fw.s (Fw.val_move rfl) rfl ?_
    refine Fw.gF (d := 7) rfl rfl rfl rfl ?_
    refine Fw.gF (d := 7) rfl rfl rfl rfl ?_
    refine Fw.gF (d := 7) rfl rfl rfl rfl ?_
    refine Fw.gF (d := 7) rfl rfl rfl rfl ?_
    refine Fw.s (Fw.val_pickF rfl rfl) rfl ?_
    refine Fw.s (Fw.val_assign rfl) rfl ?_
    refine Fw.nil ?_
    refine hK2 _ _ (Fw.FC.sub (f' := [(4, _)]) (.cons rfl .nil) ?_)
    refine Fw.ret ?_
    refine Fw.ret_ [.tmp 4] [_] Try.results49 (.tmp rfl .nil) ?_
    rw [show Us.there l id = false from decide_eq_false (by omega)]
    exact ⟨rfl, rfl⟩

set_option maxRecDepth 100000 in
set_option maxHeartbeats 1000000 in
theorem rright_any (u : Us.U) (e : Int) (w : World) : Calls Try.prog 52 #[.agg (Us.U.cells u).toArray, .int .i64 e] w fun e_ w' => e_ = .returned (.bool (Us.epB u e)) ∧ Below w.heap.size w w' := by
  refine Fw.calls Try.func52 rfl Try.ntmps52 rfl ?_
  have HB := Below.refl (w.heap.size) w
  refine Fw.seq fun _ hK1 => ?_
  refine Fw.region ?_
  refine Fw.box rfl rfl ?_
  intro w1 gX2 egX2 HX2 hb
  have lgX2 : w.heap.size ≤ gX2 := by have := HB.size; omega
  replace HB := HB.trans (hb.mono HB.size)
  clear hb
  clear egX2
  refine Fw.s (Fw.val_assign rfl) rfl ?_
  refine Fw.nil ?_
  refine hK1 _ _ ?_
  refine Fw.seq fun _ hK2 => ?_
  refine Fw.region ?_
  refine Fw.s (Fw.val_move rfl) rfl ?_
  refine Fw.s (Fw.val_fieldAddr fl40_0 rfl rfl) rfl ?_
  refine Fw.s (Fw.val_fieldAddr fl32_8 rfl rfl) rfl ?_
  refine Fw.ld sc2 rfl (HX2.cell 8) rfl ?_
  refine Fw.s2 (Fw.val_bin rfl rfl Fw.b_gtr) rfl ?_ ?_
  · rintro hq_
    refine Fw.s (Fw.val_move rfl) rfl ?_
    refine Fw.gT (d := 10) rfl rfl ?_
    refine Fw.s (Fw.val_move rfl) rfl ?_
    refine Fw.gT (d := 10) rfl rfl ?_
    refine Fw.s2 (Fw.val_bin rfl rfl Fw.b_leq) rfl ?_ ?_
    · rintro hq_
      refine Fw.s (Fw.val_pickT rfl rfl) rfl ?_
      refine Fw.s (Fw.val_assign rfl) rfl ?_
      refine Fw.nil ?_
      refine hK2 _ _ (Fw.FC.sub (f' := [(4, _)]) (.cons rfl .nil) ?_)
      refine Fw.ret ?_
      refine Fw.ret_ [.tmp 4] [_] Try.results52 (.tmp rfl .nil) ?_
      rw [show Us.epB u e = true from decide_eq_true (by omega)]
      exact ⟨rfl, HB⟩
    · rintro hq_
      refine Fw.s (Fw.val_pickT rfl rfl) rfl ?_
      refine Fw.s (Fw.val_assign rfl) rfl ?_
      refine Fw.nil ?_
      refine hK2 _ _ (Fw.FC.sub (f' := [(4, _)]) (.cons rfl .nil) ?_)
      refine Fw.ret ?_
      refine Fw.ret_ [.tmp 4] [_] Try.results52 (.tmp rfl .nil) ?_
      rw [show Us.epB u e = false from decide_eq_false (by omega)]
      exact ⟨rfl, HB⟩
  · rintro hq_
    refine Fw.s (Fw.val_move rfl) rfl ?_
    refine Fw.gF (d := 10) rfl rfl rfl rfl ?_
    refine Fw.gF (d := 10) rfl rfl rfl rfl ?_
    refine Fw.s (Fw.val_pickF rfl rfl) rfl ?_
    refine Fw.s (Fw.val_assign rfl) rfl ?_
    refine Fw.nil ?_
    refine hK2 _ _ (Fw.FC.sub (f' := [(4, _)]) (.cons rfl .nil) ?_)
    refine Fw.ret ?_
    refine Fw.ret_ [.tmp 4] [_] Try.results52 (.tmp rfl .nil) ?_
    rw [show Us.epB u e = false from decide_eq_false (by omega)]
    exact ⟨rfl, HB⟩

set_option maxRecDepth 100000 in
set_option maxHeartbeats 1000000 in
theorem rgiven_any (u : Us.U) (q e k m n : Int) (w : World) : Calls Try.prog 53 #[.agg (Us.U.cells u).toArray, .agg #[.int .i64 q, .int .i64 e, .int .i64 k, .int .i64 m, .int .i64 n]] w fun e_ w' => e_ = .returned (.agg (Us.U.cells (Us.issue u e k m n)).toArray) ∧ Below w.heap.size w w' := by
  refine Fw.calls Try.func53 rfl Try.ntmps53 rfl ?_
  have HB := Below.refl (w.heap.size) w
  refine Fw.seq fun _ hK1 => ?_
  refine Fw.region ?_
  refine Fw.box rfl rfl ?_
  intro w1 gX2 egX2 HX2 hb
  have lgX2 : w.heap.size ≤ gX2 := by have := HB.size; omega
  replace HB := HB.trans (hb.mono HB.size)
  clear hb
  clear egX2
  refine Fw.box rfl rfl ?_
  intro w2 gX3 egX3 HX3 hb
  have n_gX2_gX3 : gX2 < gX3 := by have := HX2.lt; omega
  have lgX3 : w.heap.size ≤ gX3 := by have := HB.size; omega
  replace HX2 := HX2.low hb
  replace HB := HB.trans (hb.mono HB.size)
  clear hb
  clear egX3
  refine Fw.alloc ze40 rfl ?_
  intro w3 gX4 egX4 HX4 hb
  have n_gX2_gX4 : gX2 < gX4 := by have := HX2.lt; omega
  have n_gX3_gX4 : gX3 < gX4 := by have := HX3.lt; omega
  have lgX4 : w.heap.size ≤ gX4 := by have := HB.size; omega
  replace HX2 := HX2.low hb
  replace HX3 := HX3.low hb
  replace HB := HB.trans (hb.mono HB.size)
  clear hb
  clear egX4
  refine Fw.nil ?_
  refine hK1 _ _ ?_
  refine Fw.seq fun _ hK2 => ?_
  refine Fw.region ?_
  refine Fw.s (Fw.val_fieldAddr fl36_1 rfl rfl) rfl ?_
  refine Fw.ld sc2 rfl (HX3.cell 1) rfl ?_
  refine Fw.s (Fw.val_fieldAddr fl40_0 rfl rfl) rfl ?_
  refine Fw.s (Fw.val_fieldAddr fl32_8 rfl rfl) rfl ?_
  refine Fw.store sz2 rfl rfl HX2 rfl rfl rfl ?_
  intro w4 N_ hc
  replace HX3 := HX3.chg hc (by omega)
  replace HX4 := HX4.chg hc (by omega)
  replace HB := HB.trans (hc.below (B := w.heap.size) (fun k e => by omega) HB.size)
  clear hc
  clear HX2
  have HX2 := N_
  clear N_
  refine Fw.nil ?_
  refine hK2 _ _ ?_
  refine Fw.seq fun _ hK3 => ?_
  refine Fw.region ?_
  refine Fw.s (Fw.val_fieldAddr fl40_0 rfl rfl) rfl ?_
  refine Fw.s (Fw.val_fieldAddr fl32_0 rfl rfl) rfl ?_
  refine Fw.ld sc3 rfl (HX2.cell 0) rfl ?_
  refine Fw.s (Fw.val_fieldAddr fl36_0 rfl rfl) rfl ?_
  refine Fw.store sz3 rfl rfl HX3 rfl rfl rfl ?_
  intro w5 N_ hc
  replace HX2 := HX2.chg hc (by omega)
  replace HX4 := HX4.chg hc (by omega)
  replace HB := HB.trans (hc.below (B := w.heap.size) (fun k e => by omega) HB.size)
  clear hc
  clear HX3
  have HX3 := N_
  clear N_
  refine Fw.nil ?_
  refine hK3 _ _ (Fw.FC.sub (f' := [(4, _), (3, _), (2, _)]) (.cons rfl (.cons rfl (.cons rfl .nil))) ?_)
  refine Fw.seq fun _ hK4 => ?_
  refine Fw.region ?_
  refine Fw.ldA ag36 rfl (Fw.rdBlk HX3) rfl rfl ?_
  refine Fw.s (Fw.val_fieldAddr fl40_1 rfl rfl) rfl ?_
  refine Fw.storeP sz36 rfl rfl HX2 rfl rfl (by exact Fw.oneCells rfl) ?_
  intro w6 N_ hc
  replace HX3 := HX3.chg hc (by omega)
  replace HX4 := HX4.chg hc (by omega)
  replace HB := HB.trans (hc.below (B := w.heap.size) (fun k e => by omega) HB.size)
  clear hc
  clear HX2
  have HX2 := N_
  clear N_
  refine Fw.nil ?_
  refine hK4 _ _ ?_
  refine Fw.seq fun _ hK5 => ?_
  refine Fw.region ?_
  refine Fw.ldA ag40 rfl (Fw.rdBlk HX2) rfl rfl ?_
  refine Fw.storeW sz40 rfl rfl HX4 rfl rfl (by exact Fw.oneCells rfl) ?_
  intro w7 N_ hc
  replace HX2 := HX2.chg hc (by omega)
  replace HX3 := HX3.chg hc (by omega)
  replace HB := HB.trans (hc.below (B := w.heap.size) (fun k e => by omega) HB.size)
  clear hc
  clear HX4
  have HX4 := N_
  clear N_
  refine Fw.nil ?_
  refine hK5 _ _ ?_
  refine Fw.ret ?_
  refine Fw.ret_ [.cell 4 40] [_] Try.results53 (Fw.ResL.cellM rfl ag40 (Fw.rdBlk HX4) rfl .nil) ?_
  exact ⟨rfl, HB⟩

set_option maxRecDepth 100000 in
set_option maxHeartbeats 1000000 in
theorem rwith_any (w : World) (A : Option Addr) (l : List Us.U) (c : Nat) (u : Us.U) (i n : Nat) (hn : n = l.length) (h : Fw.RdT w 40 A (l.flatMap Us.U.cells)) (hu : u.id = i) (hi : i < l.length) (hl : l.length ≤ 256) : Calls Try.prog 54 #[.slice A n c, .agg (Us.U.cells u).toArray] w fun e_ w' => ∃ A' c', e_ = .returned (.slice A' n c') ∧ Fw.RdT w' 40 A' ((l.set i u).flatMap Us.U.cells) ∧ Below w.heap.size w w' := by
  subst hn
  refine Fw.calls Try.func54 rfl Try.ntmps54 rfl ?_
  have HB := Below.refl (w.heap.size) w
  refine Fw.seq fun _ hK1 => ?_
  refine Fw.region ?_
  refine Fw.box rfl rfl ?_
  intro w1 gX3 egX3 HX3 hb
  have lgX3 : w.heap.size ≤ gX3 := by have := HB.size; omega
  replace HB := HB.trans (hb.mono HB.size)
  clear hb
  clear egX3
  refine Fw.s (Fw.val_assign rfl) rfl ?_
  refine Fw.nil ?_
  refine hK1 _ _ ?_
  refine Fw.seq fun _ hK2 => ?_
  refine Fw.region ?_
  refine Fw.buildSlice [] sl28 rfl rfl (by exact Fw.allSz rfl) (by decide) rfl ?_
  intro w2 gS6 egS6 HS6 hb
  have n_gX3_gS6 : gX3 < gS6 := by have := HX3.lt; omega
  have lgS6 : w.heap.size ≤ gS6 := by have := HB.size; omega
  replace HX3 := HX3.low hb
  replace HB := HB.trans (hb.mono HB.size)
  clear hb
  clear egS6
  refine Fw.s (Fw.val_move rfl) rfl ?_
  refine Fw.append l.length (l.flatMap Us.U.cells) sl28 rfl rfl (Fw.ownBlk (base := w.heap.size) (n := 0) (size := 15) HS6 (by omega) (by unfold maxLen; omega) rfl) (h.1.low HB) (Fw.flat_len Us.U.len l) (Us.cells_one l) (by unfold maxLen; omega) HB.size (by omega) rfl rfl ?_
  intro A' c' w3 HN hbb hc hrow
  obtain ⟨gN, rfl⟩ := Fw.own_some HN hrow rfl
  have lgN := (HN.lt gN rfl).1
  have n_HX3 : ¬ some gX3 = (Value.slice (some ⟨gS6, 0, none⟩) 0 0).ownBlock := Fw.ownBlk_ne (by omega)
  replace HX3 := HX3.chg hc n_HX3
  replace HB := HB.trans hbb
  clear hbb hc hrow HS6
  refine Fw.s (Fw.val_assign rfl) rfl ?_
  refine Fw.nil ?_
  refine hK2 _ _ ?_
  refine Fw.seq fun _ hK3 => ?_
  refine Fw.region ?_
  refine Fw.s (Fw.val_move rfl) rfl ?_
  refine Fw.s (Fw.val_fieldAddr fl40_0 rfl rfl) rfl ?_
  refine Fw.s (Fw.val_fieldAddr fl32_0 rfl rfl) rfl ?_
  refine Fw.ld sc3 rfl (HX3.cell 0) rfl ?_
  refine Fw.ldA ag40 rfl (Fw.rdBlk HX3) rfl rfl ?_
  have HAt := Fw.At.open_ Us.U.len hi HN
  clear HN
  refine Fw.s (Fw.val_indexR Try.underlying28 sz40 rfl rfl rfl hu hi (Fw.add00 gN (i * 15))) rfl ?_
  refine Fw.storeIA Us.U.len sz40 rfl rfl rfl HAt rfl (by exact Fw.oneCells rfl) ?_
  intro w4 N_ hc
  replace HB := HB.trans (hc.below (B := w.heap.size) (fun k e => by omega) HB.size)
  clear hc
  clear HAt
  have HAt := N_
  clear N_
  refine Fw.nil ?_
  refine hK3 _ _ (Fw.FC.sub (f' := [(5, _)]) (.cons rfl .nil) ?_)
  refine Fw.seq fun _ hK5 => ?_
  refine Fw.region ?_
  refine Fw.s (Fw.val_move rfl) rfl ?_
  refine Fw.s (Fw.val_assign rfl) rfl ?_
  refine Fw.nil ?_
  refine hK5 _ _ ?_
  refine Fw.ret ?_
  refine Fw.ret_ [.tmp 4] [_] Try.results54 (.tmp rfl .nil) ?_
  have HN := Fw.At.close u HAt
  exact ⟨_, _, rfl, Fw.RdT.own HN, HB⟩

set_option maxRecDepth 100000 in
set_option maxHeartbeats 1000000 in
theorem rhas_any (w : World) (A : Option Addr) (l : List Int) (c : Nat) (x : Int) (h : Rd w A (l.map (.int .i64))) (hl : l.length ≤ 100000) : Calls Try.prog 20 #[.slice A l.length c, .int .i64 x] w fun e_ w' => e_ = .returned (.bool (decide (x ∈ l))) ∧ Below w.heap.size w w' := by
  refine Fw.calls Try.func20 rfl Try.ntmps20 rfl ?_
  have HB := Below.refl (w.heap.size) w
  refine Fw.seq fun _ hK1 => ?_
  refine Fw.region ?_
  refine Fw.s (Fw.val_assign rfl) rfl ?_
  refine Fw.nil ?_
  refine hK1 _ _ ?_
  refine Fw.seq fun _ hK2 => ?_
  refine Fw.seq fun _ hK3 => ?_
  refine Fw.region ?_
  refine Fw.s (Fw.val_assign rfl) rfl ?_
  refine Fw.nil ?_
  refine hK3 _ _ ?_
  refine Fw.block ?_
  refine Fw.loop (fun m_ f_ W_ => ∃ (k : Nat), m_ = l.length - k ∧ k ≤ l.length ∧ x ∉ l.take k ∧ Below (w.heap.size) w W_ ∧ f_ = [(5, .int .i64 k), (0, .slice A l.length c), (1, .int .i64 x)]) ⟨_, _, ⟨0, rfl, Nat.zero_le _, by simp, HB, rfl⟩, (.cons rfl (.cons rfl (.cons rfl .nil)))⟩ ?_
  clear HB
  rintro m4_ _ w1 ⟨k, hm4_, hkl, hno, HB, rfl⟩
  refine Fw.seq fun _ hK5 => ?_
  refine Fw.seq fun _ hK6 => ?_
  refine Fw.region ?_
  refine Fw.s (Fw.val_move rfl) rfl ?_
  refine Fw.s (Fw.val_move rfl) rfl ?_
  refine Fw.s (Fw.val_len Try.underlying58 rfl) rfl ?_
  refine Fw.s2 (Fw.val_bin rfl rfl Fw.b_lss) rfl ?_ ?_
  · rintro hk
    refine Fw.nil ?_
    refine hK6 _ _ ?_
    refine Fw.condT rfl ?_
    refine Fw.skip ?_
    refine hK5 _ _ ?_
    refine Fw.seq fun _ hK8 => ?_
    refine Fw.block ?_
    refine Fw.seq fun _ hK9 => ?_
    have hkn : k < l.length := by omega
    obtain ⟨ad, b, o, hA, hadd, HE⟩ := Fw.rdAtM (h.low HB) k hkn
    refine Fw.region ?_
    refine Fw.s (Fw.val_move rfl) rfl ?_
    refine Fw.s (Fw.val_move rfl) rfl ?_
    refine Fw.s (Fw.val_indexR Try.underlying58 sz3 rfl hA rfl rfl hkn hadd) rfl ?_
    refine Fw.ld sc3 rfl (HE) rfl ?_
    refine Fw.s (Fw.val_move rfl) rfl ?_
    refine Fw.s2 (Fw.val_bin rfl rfl Fw.b_eql) rfl ?_ ?_
    · rintro hq
      refine Fw.nil ?_
      refine hK9 _ _ (Fw.FC.sub (f' := [(17, _), (5, _), (0, _), (1, _)]) (.cons rfl (.cons rfl (.cons rfl (.cons rfl .nil)))) ?_)
      refine Fw.condT rfl ?_
      refine Fw.seq fun _ hK12 => ?_
      refine Fw.region ?_
      refine Fw.s (Fw.val_assign rfl) rfl ?_
      refine Fw.nil ?_
      refine hK12 _ _ ?_
      refine Fw.ret ?_
      refine Fw.X_blockR ?_
      refine Fw.X_ret ?_
      refine Fw.X_ret ?_
      refine Fw.X_blockR ?_
      refine Fw.X_ret ?_
      refine Fw.ret_ [.tmp 4] [_] Try.results20 (.tmp rfl .nil) ?_
      rw [decide_eq_true (show x ∈ l from by rw [← hq]; exact List.getElem_mem hkn)]
      exact ⟨rfl, HB⟩
    · rintro hq
      refine Fw.nil ?_
      refine hK9 _ _ (Fw.FC.sub (f' := [(17, _), (5, _), (0, _), (1, _)]) (.cons rfl (.cons rfl (.cons rfl (.cons rfl .nil)))) ?_)
      refine Fw.condF rfl ?_
      refine Fw.skip ?_
      refine Fw.X_blockN ?_
      refine hK8 _ _ ?_
      refine Fw.region ?_
      refine Fw.s (Fw.val_move rfl) rfl ?_
      refine Fw.s (Fw.val_bin rfl rfl (Fw.b_add (Fw.i64_ok (by omega)))) rfl ?_
      refine Fw.s (Fw.val_assign rfl) rfl ?_
      refine Fw.nil ?_
      refine Fw.roundEnd _ _ (by omega) ⟨k + 1, rfl, hkn, by rw [List.take_succ_eq_append_getElem hkn, List.mem_append, List.mem_singleton]; exact not_or.2 ⟨hno, fun e => hq e.symm⟩, HB, rfl⟩ (.cons rfl (.cons rfl (.cons rfl .nil)))
  · rintro hk
    refine Fw.nil ?_
    refine hK6 _ _ ?_
    refine Fw.condF rfl ?_
    refine Fw.exit ?_
    refine Fw.X_exit ?_
    refine Fw.X_exit ?_
    refine Fw.X_block ?_
    refine hK2 _ _ (Fw.FC.sub (f' := []) .nil ?_)
    refine Fw.seq fun _ hK13 => ?_
    refine Fw.region ?_
    refine Fw.s (Fw.val_assign rfl) rfl ?_
    refine Fw.nil ?_
    refine hK13 _ _ ?_
    refine Fw.ret ?_
    refine Fw.ret_ [.tmp 4] [_] Try.results20 (.tmp rfl .nil) ?_
    obtain rfl : k = l.length := by omega
    rw [List.take_length] at hno
    rw [decide_eq_false hno]
    exact ⟨rfl, HB⟩

set_option maxRecDepth 100000 in
set_option maxHeartbeats 1000000 in
theorem rsame7_any (w : World) (A : Option Addr) (l : List Int) (c : Nat) (A' : Option Addr) (l' : List Int) (c' : Nat) (h : Rd w A (l.map (.int .i64))) (h' : Rd w A' (l'.map (.int .i64))) (hl : l.length ≤ 100000) : Calls Try.prog 26 #[.slice A l.length c, .slice A' l'.length c'] w fun e_ w' => e_ = .returned (.bool (decide (l = l'))) ∧ Below w.heap.size w w' := by
  refine Fw.calls Try.func26 rfl Try.ntmps26 rfl ?_
  have HB := Below.refl (w.heap.size) w
  refine Fw.seq fun _ hK1 => ?_
  refine Fw.region ?_
  refine Fw.s (Fw.val_assign rfl) rfl ?_
  refine Fw.nil ?_
  refine hK1 _ _ ?_
  refine Fw.seq fun _ hK2 => ?_
  refine Fw.seq fun _ hK3 => ?_
  refine Fw.region ?_
  refine Fw.s (Fw.val_move rfl) rfl ?_
  refine Fw.s (Fw.val_len Try.underlying58 rfl) rfl ?_
  refine Fw.s (Fw.val_move rfl) rfl ?_
  refine Fw.s (Fw.val_len Try.underlying58 rfl) rfl ?_
  refine Fw.s2 (Fw.val_bin rfl rfl Fw.b_neq) rfl ?_ ?_
  · rintro hlen
    refine Fw.nil ?_
    refine hK3 _ _ ?_
    refine Fw.condT rfl ?_
    refine Fw.seq fun _ hK5 => ?_
    refine Fw.region ?_
    refine Fw.s (Fw.val_assign rfl) rfl ?_
    refine Fw.nil ?_
    refine hK5 _ _ (Fw.FC.sub (f' := [(4, _)]) (.cons rfl .nil) ?_)
    refine Fw.ret ?_
    refine Fw.X_ret ?_
    refine Fw.ret_ [.tmp 4] [_] Try.results26 (.tmp rfl .nil) ?_
    rw [decide_eq_false (show ¬ l = l' from fun e => hlen (by rw [e]))]
    exact ⟨rfl, HB⟩
  · rintro hlen
    refine Fw.nil ?_
    refine hK3 _ _ ?_
    refine Fw.condF rfl ?_
    refine Fw.skip ?_
    refine hK2 _ _ ?_
    refine Fw.seq fun _ hK6 => ?_
    refine Fw.seq fun _ hK7 => ?_
    refine Fw.region ?_
    refine Fw.s (Fw.val_assign rfl) rfl ?_
    refine Fw.nil ?_
    refine hK7 _ _ ?_
    refine Fw.block ?_
    refine Fw.loop (fun m_ f_ W_ => ∃ (k : Nat), m_ = l.length - k ∧ k ≤ l.length ∧ l.take k = l'.take k ∧ Below (w.heap.size) w W_ ∧ f_ = [(5, .int .i64 k), (0, .slice A l.length c), (1, .slice A' l'.length c')]) ⟨_, _, ⟨0, rfl, Nat.zero_le _, rfl, HB, rfl⟩, (.cons rfl (.cons rfl (.cons rfl .nil)))⟩ ?_
    clear HB
    rintro m8_ _ w1 ⟨k, hm8_, hkl, hsm, HB, rfl⟩
    refine Fw.seq fun _ hK9 => ?_
    refine Fw.seq fun _ hK10 => ?_
    refine Fw.region ?_
    refine Fw.s (Fw.val_move rfl) rfl ?_
    refine Fw.s (Fw.val_move rfl) rfl ?_
    refine Fw.s (Fw.val_len Try.underlying58 rfl) rfl ?_
    refine Fw.s2 (Fw.val_bin rfl rfl Fw.b_lss) rfl ?_ ?_
    · rintro hk
      refine Fw.nil ?_
      refine hK10 _ _ ?_
      refine Fw.condT rfl ?_
      refine Fw.skip ?_
      refine hK9 _ _ ?_
      refine Fw.seq fun _ hK12 => ?_
      refine Fw.block ?_
      refine Fw.seq fun _ hK13 => ?_
      have hkn : k < l.length := by omega
      have hkn2 : k < l'.length := by omega
      obtain ⟨ad, b, o, hA, hadd, HE⟩ := Fw.rdAtM (h.low HB) k hkn
      obtain ⟨ad2, b2, o2, hA2, hadd2, HE2⟩ := Fw.rdAtM (h'.low HB) k hkn2
      refine Fw.regionQ (by kernel_rfl) (by kernel_rfl) ?_
      refine Fw.q (Fw.val_move rfl) rfl ?_
      refine Fw.q (Fw.val_move rfl) rfl ?_
      refine Fw.q (Fw.val_indexR Try.underlying58 sz3 rfl hA rfl rfl hkn hadd) rfl ?_
      refine Fw.ldQ sc3 rfl (HE) rfl ?_
      refine Fw.q (Fw.val_move rfl) rfl ?_
      refine Fw.q (Fw.val_move rfl) rfl ?_
      refine Fw.q (Fw.val_indexR Try.underlying58 sz3 rfl hA2 rfl rfl hkn2 hadd2) rfl ?_
      refine Fw.ldQ sc3 rfl (HE2) rfl ?_
      refine Fw.q2 (Fw.val_bin rfl rfl Fw.b_neq) rfl ?_ ?_
      · rintro hq
        refine Fw.nilQ ?_
        intro w2 hb
        clear HE
        clear HE2
        replace HB := HB.trans (hb.mono HB.size)
        clear hb
        refine hK13 _ _ (Fw.FC.sub (f' := [(25, _), (5, _), (0, _), (1, _)]) (.cons rfl (.cons rfl (.cons rfl (.cons rfl .nil)))) ?_)
        refine Fw.condT rfl ?_
        refine Fw.seq fun _ hK17 => ?_
        refine Fw.region ?_
        refine Fw.s (Fw.val_assign rfl) rfl ?_
        refine Fw.nil ?_
        refine hK17 _ _ ?_
        refine Fw.ret ?_
        refine Fw.X_blockR ?_
        refine Fw.X_ret ?_
        refine Fw.X_ret ?_
        refine Fw.X_blockR ?_
        refine Fw.X_ret ?_
        refine Fw.ret_ [.tmp 4] [_] Try.results26 (.tmp rfl .nil) ?_
        rw [decide_eq_false (show ¬ l = l' from fun e => hq (by subst e; rfl))]
        exact ⟨rfl, HB⟩
      · rintro hq
        refine Fw.nilQ ?_
        intro w3 hb
        clear HE
        clear HE2
        replace HB := HB.trans (hb.mono HB.size)
        clear hb
        refine hK13 _ _ (Fw.FC.sub (f' := [(25, _), (5, _), (0, _), (1, _)]) (.cons rfl (.cons rfl (.cons rfl (.cons rfl .nil)))) ?_)
        refine Fw.condF rfl ?_
        refine Fw.skip ?_
        refine Fw.X_blockN ?_
        refine hK12 _ _ ?_
        refine Fw.region ?_
        refine Fw.s (Fw.val_move rfl) rfl ?_
        refine Fw.s (Fw.val_bin rfl rfl (Fw.b_add (Fw.i64_ok (by omega)))) rfl ?_
        refine Fw.s (Fw.val_assign rfl) rfl ?_
        refine Fw.nil ?_
        refine Fw.roundEnd _ _ (by omega) ⟨k + 1, rfl, hkn, by rw [List.take_succ_eq_append_getElem hkn, List.take_succ_eq_append_getElem hkn2, hsm, Classical.byContradiction hq], HB, rfl⟩ (.cons rfl (.cons rfl (.cons rfl .nil)))
    · rintro hk
      refine Fw.nil ?_
      refine hK10 _ _ ?_
      refine Fw.condF rfl ?_
      refine Fw.exit ?_
      refine Fw.X_exit ?_
      refine Fw.X_exit ?_
      refine Fw.X_block ?_
      refine hK6 _ _ (Fw.FC.sub (f' := []) .nil ?_)
      refine Fw.seq fun _ hK18 => ?_
      refine Fw.region ?_
      refine Fw.s (Fw.val_assign rfl) rfl ?_
      refine Fw.nil ?_
      refine hK18 _ _ ?_
      refine Fw.ret ?_
      refine Fw.ret_ [.tmp 4] [_] Try.results26 (.tmp rfl .nil) ?_
      rw [List.take_of_length_le (by omega), List.take_of_length_le (by omega)] at hsm
      rw [decide_eq_true hsm]
      exact ⟨rfl, HB⟩

end Go.Proofs.Ytmohhociomghhaa
