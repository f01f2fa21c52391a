/- Layer 29: the laws New, Advance, StaleOrders. -/
import Derived.Test.YtmacmlgjejdhpaaAj
namespace Go.Proofs.Ytmacmlgjejdhpaa
set_option linter.unusedSimpArgs false
set_option linter.unusedVariables false
open Go.RowKit

set_option maxRecDepth 100000 in
set_option maxHeartbeats 1000000 in
theorem lnew_any (w : World) (N : Int) (R : List Rg.Re) (Ae : Option Addr) (ce : Nat) (hR : Rd w Ae (R.flatMap Rg.Re.cells)) (u v : Int) : Calls Try.prog 3 #[.agg #[.int .i64 u, .int .i64 v, .int .i64 N, .slice Ae R.length ce]] w fun e_ w' => e_ = .returned (.bool true) ∧ Below w.heap.size w w' := by
  by_cases hr : Rg.Right N R
  obtain ⟨M, E, rfl, rfl, hn⟩ := Rg.right_net hr
  rw [Rg.re_cells] at hR
  rw [List.length_map]
  by_cases hok : (0 ≤ u ∧ u ≤ 255) ∧ (0 ≤ v ∧ v < (M : Int))
  refine Fw.calls Try.func3 rfl Try.ntmps3 rfl ?_
  have HB := Below.refl (w.heap.size) w
  refine Fw.seq fun _ hK1 => ?_
  refine Fw.region ?_
  refine Fw.box rfl rfl ?_
  intro w1 gx egx Hx hb
  have lgx : w.heap.size ≤ gx := by have := HB.size; omega
  replace HB := HB.trans (hb.mono HB.size)
  clear hb
  clear egx
  refine Fw.s (Fw.val_assign rfl) rfl ?_
  refine Fw.nil ?_
  refine hK1 _ _ ?_
  refine Fw.seq fun _ hK2 => ?_
  refine Fw.region ?_
  refine Fw.s (Fw.val_fieldAddr fl26_2 rfl rfl) rfl ?_
  refine Fw.ldA ag24 rfl (Fw.rdPart (Fw.rdBlk Hx) 2 2) rfl rfl ?_
  refine Fw.call cf8 rfl rfl (net29_any _ M E Ae ce (hR.low HB) hn) ?_
  rintro e_ w2 ⟨pg, rfl, HG, hb⟩
  refine ⟨_, rfl, ?_⟩
  replace Hx := Hx.low hb
  replace HB := HB.trans (hb.mono HB.size)
  clear hb
  refine Fw.s (Fw.val_assign rfl) rfl ?_
  refine Fw.nil ?_
  refine hK2 _ _ ?_
  refine Fw.seq fun _ hK3 => ?_
  refine Fw.seq fun _ hK4 => ?_
  refine Fw.region ?_
  refine Fw.call cf9 rfl rfl (awake29_any _) ?_
  rintro e_ w3 ⟨rfl, hb⟩
  refine ⟨_, rfl, ?_⟩
  replace Hx := Hx.low hb
  replace HG := HG.low hb
  replace HB := HB.trans (hb.mono HB.size)
  clear hb
  refine Fw.s (Fw.val_not rfl) rfl ?_
  refine Fw.s (Fw.val_move rfl) rfl ?_
  refine Fw.gT (d := 15) rfl rfl ?_
  refine Fw.s (Fw.val_move rfl) rfl ?_
  refine Fw.gT (d := 15) rfl rfl ?_
  refine Fw.s (Fw.val_bin rfl rfl (Fw.b_nilP Try.underlying27)) rfl ?_
  refine Fw.s (Fw.val_pickF rfl rfl) rfl ?_
  refine Fw.nil ?_
  refine hK4 _ _ (Fw.FC.sub (f' := [(18, _), (3, _), (1, _)]) (.cons rfl (.cons rfl (.cons rfl .nil))) ?_)
  refine Fw.condF rfl ?_
  refine Fw.skip ?_
  refine hK3 _ _ ?_
  refine Fw.seq fun _ hK5 => ?_
  refine Fw.region ?_
  refine Fw.s (Fw.val_fieldAddr fl26_0 rfl rfl) rfl ?_
  refine Fw.ld sc3 rfl (Hx.cell 0) rfl ?_
  refine Fw.s (Fw.val_fieldAddr fl26_1 rfl rfl) rfl ?_
  refine Fw.ld sc3 rfl (Hx.cell 1) rfl ?_
  refine Fw.s (Fw.val_fieldAddr fl26_2 rfl rfl) rfl ?_
  refine Fw.ldA ag24 rfl (Fw.rdPart (Fw.rdBlk Hx) 2 2) rfl rfl ?_
  refine Fw.call cf10 rfl rfl (rNew_any _ u v M Ae E.length ce) ?_
  rintro e_ w4 ⟨q, rfl, -, -, hb⟩
  refine ⟨_, rfl, ?_⟩
  replace Hx := Hx.low hb
  replace HG := HG.low hb
  replace HB := HB.trans (hb.mono HB.size)
  clear hb
  rw [decide_eq_true hok]
  refine Fw.s (Fw.val_move rfl) rfl ?_
  refine Fw.s (Fw.val_extract rfl rfl) rfl ?_
  refine Fw.s (Fw.val_extract rfl rfl) rfl ?_
  refine Fw.s (Fw.val_assign rfl) rfl ?_
  refine Fw.s (Fw.val_assign rfl) rfl ?_
  refine Fw.nil ?_
  refine hK5 _ _ (Fw.FC.sub (f' := [(5, _), (3, _), (1, _)]) (.cons rfl (.cons rfl (.cons rfl .nil))) ?_)
  refine Fw.seq fun _ hK6 => ?_
  refine Fw.region ?_
  refine Fw.s (Fw.val_fieldAddr fl26_0 rfl rfl) rfl ?_
  refine Fw.ld sc3 rfl (Hx.cell 0) rfl ?_
  refine Fw.s (Fw.val_fieldAddr fl26_1 rfl rfl) rfl ?_
  refine Fw.ld sc3 rfl (Hx.cell 1) rfl ?_
  refine Fw.s (Fw.val_move rfl) rfl ?_
  refine Fw.call cf11 rfl rfl (newAgent_any _ pg M E HG u v hok.1 hok.2) ?_
  rintro e_ w5 ⟨p, pf, rfl, -, -, -, hb⟩
  refine ⟨_, rfl, ?_⟩
  replace Hx := Hx.low hb
  replace HG := HG.low hb
  replace HB := HB.trans (hb.mono HB.size)
  clear hb
  refine Fw.s (Fw.val_move rfl) rfl ?_
  refine Fw.s (Fw.val_extract rfl rfl) rfl ?_
  refine Fw.s (Fw.val_extract rfl rfl) rfl ?_
  refine Fw.s (Fw.val_assign rfl) rfl ?_
  refine Fw.s (Fw.val_assign rfl) rfl ?_
  refine Fw.nil ?_
  refine hK6 _ _ (Fw.FC.sub (f' := [(7, _), (6, _), (5, _), (1, _)]) (.cons rfl (.cons rfl (.cons rfl (.cons rfl .nil)))) ?_)
  refine Fw.seq fun _ hK7 => ?_
  refine Fw.region ?_
  refine Fw.s (Fw.val_fieldAddr fl26_0 rfl rfl) rfl ?_
  refine Fw.ld sc3 rfl (Hx.cell 0) rfl ?_
  refine Fw.s (Fw.val_fieldAddr fl26_1 rfl rfl) rfl ?_
  refine Fw.ld sc3 rfl (Hx.cell 1) rfl ?_
  refine Fw.call cf11 rfl rfl (newAgent_nil _ u v) ?_
  rintro e_ w6 ⟨rfl, hb⟩
  refine ⟨_, rfl, ?_⟩
  replace Hx := Hx.low hb
  replace HG := HG.low hb
  replace HB := HB.trans (hb.mono HB.size)
  clear hb
  refine Fw.s (Fw.val_move rfl) rfl ?_
  refine Fw.s (Fw.val_extract rfl rfl) rfl ?_
  refine Fw.s (Fw.val_extract rfl rfl) rfl ?_
  refine Fw.s (Fw.val_assign rfl) rfl ?_
  refine Fw.s (Fw.val_assign rfl) rfl ?_
  refine Fw.nil ?_
  refine hK7 _ _ (Fw.FC.sub (f' := [(9, _), (8, _), (7, _), (6, _), (5, _)]) (.cons rfl (.cons rfl (.cons rfl (.cons rfl (.cons rfl .nil))))) ?_)
  refine Fw.seq fun _ hK8 => ?_
  refine Fw.region ?_
  refine Fw.s (Fw.val_move rfl) rfl ?_
  refine Fw.s (Fw.val_move rfl) rfl ?_
  refine Fw.s (Fw.val_bin rfl rfl (Fw.b_nnilP Try.underlying33)) rfl ?_
  refine Fw.s (Fw.Val.T (Fw.val_bin rfl rfl (Fw.b_eqlB Try.underlying4)) (by rfl)) rfl ?_
  refine Fw.s (Fw.val_move rfl) rfl ?_
  refine Fw.gT (d := 51) rfl rfl ?_
  refine Fw.s (Fw.val_move rfl) rfl ?_
  refine Fw.gT (d := 51) rfl rfl ?_
  refine Fw.s (Fw.Val.T (Fw.val_bin rfl rfl Fw.b_eql) (by rfl)) rfl ?_
  refine Fw.gT (d := 51) rfl rfl ?_
  refine Fw.s (Fw.val_move rfl) rfl ?_
  refine Fw.gT (d := 51) rfl rfl ?_
  refine Fw.s (Fw.Val.T (Fw.val_bin rfl rfl (Fw.b_eqlB Try.underlying4)) (by rfl)) rfl ?_
  refine Fw.s (Fw.val_pickT rfl rfl) rfl ?_
  refine Fw.s (Fw.val_move rfl) rfl ?_
  refine Fw.gT (d := 57) rfl rfl ?_
  refine Fw.s (Fw.val_move rfl) rfl ?_
  refine Fw.gT (d := 57) rfl rfl ?_
  refine Fw.s (Fw.val_move rfl) rfl ?_
  refine Fw.gF (d := 59) rfl rfl rfl rfl ?_
  refine Fw.gF (d := 59) rfl rfl rfl rfl ?_
  refine Fw.gT (d := 57) rfl rfl ?_
  refine Fw.s (Fw.val_pickT rfl rfl) rfl ?_
  refine Fw.s (Fw.val_pickT rfl rfl) rfl ?_
  refine Fw.s (Fw.val_move rfl) rfl ?_
  refine Fw.gT (d := 64) rfl rfl ?_
  refine Fw.s (Fw.val_move rfl) rfl ?_
  refine Fw.gT (d := 64) rfl rfl ?_
  refine Fw.s (Fw.val_bin rfl rfl (Fw.b_nilP Try.underlying33)) rfl ?_
  refine Fw.s (Fw.val_pickT rfl rfl) rfl ?_
  refine Fw.s (Fw.val_move rfl) rfl ?_
  refine Fw.gT (d := 68) rfl rfl ?_
  refine Fw.s (Fw.val_move rfl) rfl ?_
  refine Fw.gT (d := 68) rfl rfl ?_
  refine Fw.s (Fw.Val.T (Fw.val_bin rfl rfl Fw.b_eql) (by rfl)) rfl ?_
  refine Fw.s (Fw.val_pickT rfl rfl) rfl ?_
  refine Fw.s (Fw.val_assign rfl) rfl ?_
  refine Fw.nil ?_
  refine hK8 _ _ (Fw.FC.sub (f' := [(2, _)]) (.cons rfl .nil) ?_)
  refine Fw.ret ?_
  refine Fw.ret_ [.tmp 2] [_] Try.results3 (.tmp rfl .nil) ?_
  exact ⟨rfl, HB⟩
  refine Fw.calls Try.func3 rfl Try.ntmps3 rfl ?_
  have HB := Below.refl (w.heap.size) w
  refine Fw.seq fun _ hK1 => ?_
  refine Fw.region ?_
  refine Fw.box rfl rfl ?_
  intro w1 gx egx Hx hb
  have lgx : w.heap.size ≤ gx := by have := HB.size; omega
  replace HB := HB.trans (hb.mono HB.size)
  clear hb
  clear egx
  refine Fw.s (Fw.val_assign rfl) rfl ?_
  refine Fw.nil ?_
  refine hK1 _ _ ?_
  refine Fw.seq fun _ hK2 => ?_
  refine Fw.region ?_
  refine Fw.s (Fw.val_fieldAddr fl26_2 rfl rfl) rfl ?_
  refine Fw.ldA ag24 rfl (Fw.rdPart (Fw.rdBlk Hx) 2 2) rfl rfl ?_
  refine Fw.call cf8 rfl rfl (net29_any _ M E Ae ce (hR.low HB) hn) ?_
  rintro e_ w2 ⟨pg, rfl, HG, hb⟩
  refine ⟨_, rfl, ?_⟩
  replace Hx := Hx.low hb
  replace HB := HB.trans (hb.mono HB.size)
  clear hb
  refine Fw.s (Fw.val_assign rfl) rfl ?_
  refine Fw.nil ?_
  refine hK2 _ _ ?_
  refine Fw.seq fun _ hK3 => ?_
  refine Fw.seq fun _ hK4 => ?_
  refine Fw.region ?_
  refine Fw.call cf9 rfl rfl (awake29_any _) ?_
  rintro e_ w3 ⟨rfl, hb⟩
  refine ⟨_, rfl, ?_⟩
  replace Hx := Hx.low hb
  replace HG := HG.low hb
  replace HB := HB.trans (hb.mono HB.size)
  clear hb
  refine Fw.s (Fw.val_not rfl) rfl ?_
  refine Fw.s (Fw.val_move rfl) rfl ?_
  refine Fw.gT (d := 15) rfl rfl ?_
  refine Fw.s (Fw.val_move rfl) rfl ?_
  refine Fw.gT (d := 15) rfl rfl ?_
  refine Fw.s (Fw.val_bin rfl rfl (Fw.b_nilP Try.underlying27)) rfl ?_
  refine Fw.s (Fw.val_pickF rfl rfl) rfl ?_
  refine Fw.nil ?_
  refine hK4 _ _ (Fw.FC.sub (f' := [(18, _), (3, _), (1, _)]) (.cons rfl (.cons rfl (.cons rfl .nil))) ?_)
  refine Fw.condF rfl ?_
  refine Fw.skip ?_
  refine hK3 _ _ ?_
  refine Fw.seq fun _ hK5 => ?_
  refine Fw.region ?_
  refine Fw.s (Fw.val_fieldAddr fl26_0 rfl rfl) rfl ?_
  refine Fw.ld sc3 rfl (Hx.cell 0) rfl ?_
  refine Fw.s (Fw.val_fieldAddr fl26_1 rfl rfl) rfl ?_
  refine Fw.ld sc3 rfl (Hx.cell 1) rfl ?_
  refine Fw.s (Fw.val_fieldAddr fl26_2 rfl rfl) rfl ?_
  refine Fw.ldA ag24 rfl (Fw.rdPart (Fw.rdBlk Hx) 2 2) rfl rfl ?_
  refine Fw.call cf10 rfl rfl (rNew_any _ u v M Ae E.length ce) ?_
  rintro e_ w4 ⟨q, rfl, -, -, hb⟩
  refine ⟨_, rfl, ?_⟩
  replace Hx := Hx.low hb
  replace HG := HG.low hb
  replace HB := HB.trans (hb.mono HB.size)
  clear hb
  rw [decide_eq_false hok]
  refine Fw.s (Fw.val_move rfl) rfl ?_
  refine Fw.s (Fw.val_extract rfl rfl) rfl ?_
  refine Fw.s (Fw.val_extract rfl rfl) rfl ?_
  refine Fw.s (Fw.val_assign rfl) rfl ?_
  refine Fw.s (Fw.val_assign rfl) rfl ?_
  refine Fw.nil ?_
  refine hK5 _ _ (Fw.FC.sub (f' := [(5, _), (3, _), (1, _)]) (.cons rfl (.cons rfl (.cons rfl .nil))) ?_)
  refine Fw.seq fun _ hK6 => ?_
  refine Fw.region ?_
  refine Fw.s (Fw.val_fieldAddr fl26_0 rfl rfl) rfl ?_
  refine Fw.ld sc3 rfl (Hx.cell 0) rfl ?_
  refine Fw.s (Fw.val_fieldAddr fl26_1 rfl rfl) rfl ?_
  refine Fw.ld sc3 rfl (Hx.cell 1) rfl ?_
  refine Fw.s (Fw.val_move rfl) rfl ?_
  refine Fw.call cf11 rfl rfl (newAgent_bad _ pg M E HG u v hok) ?_
  rintro e_ w5 ⟨rfl, hb⟩
  refine ⟨_, rfl, ?_⟩
  replace Hx := Hx.low hb
  replace HG := HG.low hb
  replace HB := HB.trans (hb.mono HB.size)
  clear hb
  refine Fw.s (Fw.val_move rfl) rfl ?_
  refine Fw.s (Fw.val_extract rfl rfl) rfl ?_
  refine Fw.s (Fw.val_extract rfl rfl) rfl ?_
  refine Fw.s (Fw.val_assign rfl) rfl ?_
  refine Fw.s (Fw.val_assign rfl) rfl ?_
  refine Fw.nil ?_
  refine hK6 _ _ (Fw.FC.sub (f' := [(7, _), (6, _), (5, _), (1, _)]) (.cons rfl (.cons rfl (.cons rfl (.cons rfl .nil)))) ?_)
  refine Fw.seq fun _ hK7 => ?_
  refine Fw.region ?_
  refine Fw.s (Fw.val_fieldAddr fl26_0 rfl rfl) rfl ?_
  refine Fw.ld sc3 rfl (Hx.cell 0) rfl ?_
  refine Fw.s (Fw.val_fieldAddr fl26_1 rfl rfl) rfl ?_
  refine Fw.ld sc3 rfl (Hx.cell 1) rfl ?_
  refine Fw.call cf11 rfl rfl (newAgent_nil _ u v) ?_
  rintro e_ w6 ⟨rfl, hb⟩
  refine ⟨_, rfl, ?_⟩
  replace Hx := Hx.low hb
  replace HG := HG.low hb
  replace HB := HB.trans (hb.mono HB.size)
  clear hb
  refine Fw.s (Fw.val_move rfl) rfl ?_
  refine Fw.s (Fw.val_extract rfl rfl) rfl ?_
  refine Fw.s (Fw.val_extract rfl rfl) rfl ?_
  refine Fw.s (Fw.val_assign rfl) rfl ?_
  refine Fw.s (Fw.val_assign rfl) rfl ?_
  refine Fw.nil ?_
  refine hK7 _ _ (Fw.FC.sub (f' := [(9, _), (8, _), (7, _), (6, _), (5, _)]) (.cons rfl (.cons rfl (.cons rfl (.cons rfl (.cons rfl .nil))))) ?_)
  refine Fw.seq fun _ hK8 => ?_
  refine Fw.region ?_
  refine Fw.s (Fw.val_move rfl) rfl ?_
  refine Fw.s (Fw.val_move rfl) rfl ?_
  refine Fw.s (Fw.val_bin rfl rfl (Fw.b_nnilP Try.underlying33)) rfl ?_
  refine Fw.s (Fw.Val.T (Fw.val_bin rfl rfl (Fw.b_eqlB Try.underlying4)) (by rfl)) rfl ?_
  refine Fw.s (Fw.val_move rfl) rfl ?_
  refine Fw.gT (d := 51) rfl rfl ?_
  refine Fw.s (Fw.val_move rfl) rfl ?_
  refine Fw.gT (d := 51) rfl rfl ?_
  refine Fw.s (Fw.Val.F (Fw.val_bin rfl rfl Fw.b_eql) (by decide)) rfl ?_
  refine Fw.gT (d := 51) rfl rfl ?_
  refine Fw.s (Fw.val_move rfl) rfl ?_
  refine Fw.gT (d := 51) rfl rfl ?_
  refine Fw.s (Fw.Val.T (Fw.val_bin rfl rfl (Fw.b_eqlB Try.underlying4)) (by rfl)) rfl ?_
  refine Fw.s (Fw.val_pickT rfl rfl) rfl ?_
  refine Fw.s (Fw.val_move rfl) rfl ?_
  refine Fw.gT (d := 57) rfl rfl ?_
  refine Fw.s (Fw.val_move rfl) rfl ?_
  refine Fw.gT (d := 57) rfl rfl ?_
  refine Fw.s (Fw.val_move rfl) rfl ?_
  refine Fw.gT (d := 59) rfl rfl ?_
  refine Fw.s (Fw.val_move rfl) rfl ?_
  refine Fw.gT (d := 59) rfl rfl ?_
  refine Fw.s (Fw.Val.T (Fw.val_bin rfl rfl Fw.b_eql) (by rfl)) rfl ?_
  refine Fw.gT (d := 57) rfl rfl ?_
  refine Fw.s (Fw.val_pickF rfl rfl) rfl ?_
  refine Fw.s (Fw.val_pickT rfl rfl) rfl ?_
  refine Fw.s (Fw.val_move rfl) rfl ?_
  refine Fw.gT (d := 64) rfl rfl ?_
  refine Fw.s (Fw.val_move rfl) rfl ?_
  refine Fw.gT (d := 64) rfl rfl ?_
  refine Fw.s (Fw.val_bin rfl rfl (Fw.b_nilP Try.underlying33)) rfl ?_
  refine Fw.s (Fw.val_pickT rfl rfl) rfl ?_
  refine Fw.s (Fw.val_move rfl) rfl ?_
  refine Fw.gT (d := 68) rfl rfl ?_
  refine Fw.s (Fw.val_move rfl) rfl ?_
  refine Fw.gT (d := 68) rfl rfl ?_
  refine Fw.s (Fw.Val.T (Fw.val_bin rfl rfl Fw.b_eql) (by rfl)) rfl ?_
  refine Fw.s (Fw.val_pickT rfl rfl) rfl ?_
  refine Fw.s (Fw.val_assign rfl) rfl ?_
  refine Fw.nil ?_
  refine hK8 _ _ (Fw.FC.sub (f' := [(2, _)]) (.cons rfl .nil) ?_)
  refine Fw.ret ?_
  refine Fw.ret_ [.tmp 2] [_] Try.results3 (.tmp rfl .nil) ?_
  exact ⟨rfl, HB⟩
  refine Fw.calls Try.func3 rfl Try.ntmps3 rfl ?_
  have HB := Below.refl (w.heap.size) w
  refine Fw.seq fun _ hK1 => ?_
  refine Fw.region ?_
  refine Fw.box rfl rfl ?_
  intro w1 gx egx Hx hb
  have lgx : w.heap.size ≤ gx := by have := HB.size; omega
  replace HB := HB.trans (hb.mono HB.size)
  clear hb
  clear egx
  refine Fw.s (Fw.val_assign rfl) rfl ?_
  refine Fw.nil ?_
  refine hK1 _ _ ?_
  refine Fw.seq fun _ hK2 => ?_
  refine Fw.region ?_
  refine Fw.s (Fw.val_fieldAddr fl26_2 rfl rfl) rfl ?_
  refine Fw.ldA ag24 rfl (Fw.rdPart (Fw.rdBlk Hx) 2 2) rfl rfl ?_
  refine Fw.call cf8 rfl rfl (net29No_any _ N R Ae ce (hR.low HB) hr) ?_
  rintro e_ w2 ⟨rfl, hb⟩
  refine ⟨_, rfl, ?_⟩
  replace Hx := Hx.low hb
  replace HB := HB.trans (hb.mono HB.size)
  clear hb
  refine Fw.s (Fw.val_assign rfl) rfl ?_
  refine Fw.nil ?_
  refine hK2 _ _ ?_
  refine Fw.seq fun _ hK3 => ?_
  refine Fw.seq fun _ hK4 => ?_
  refine Fw.region ?_
  refine Fw.call cf9 rfl rfl (awake29_any _) ?_
  rintro e_ w3 ⟨rfl, hb⟩
  refine ⟨_, rfl, ?_⟩
  replace Hx := Hx.low hb
  replace HB := HB.trans (hb.mono HB.size)
  clear hb
  refine Fw.s (Fw.val_not rfl) rfl ?_
  refine Fw.s (Fw.val_move rfl) rfl ?_
  refine Fw.gT (d := 15) rfl rfl ?_
  refine Fw.s (Fw.val_move rfl) rfl ?_
  refine Fw.gT (d := 15) rfl rfl ?_
  refine Fw.s (Fw.val_bin rfl rfl (Fw.b_nilP Try.underlying27)) rfl ?_
  refine Fw.s (Fw.val_pickF rfl rfl) rfl ?_
  refine Fw.nil ?_
  refine hK4 _ _ (Fw.FC.sub (f' := [(18, _), (3, _), (1, _)]) (.cons rfl (.cons rfl (.cons rfl .nil))) ?_)
  refine Fw.condT rfl ?_
  refine Fw.seq fun _ hK5 => ?_
  refine Fw.region ?_
  refine Fw.call cf9 rfl rfl (awake29_any _) ?_
  rintro e_ w4 ⟨rfl, hb⟩
  refine ⟨_, rfl, ?_⟩
  replace Hx := Hx.low hb
  replace HB := HB.trans (hb.mono HB.size)
  clear hb
  refine Fw.s (Fw.val_assign rfl) rfl ?_
  refine Fw.nil ?_
  refine hK5 _ _ ?_
  refine Fw.ret ?_
  refine Fw.X_ret ?_
  refine Fw.ret_ [.tmp 2] [_] Try.results3 (.tmp rfl .nil) ?_
  exact ⟨rfl, HB⟩

set_option maxRecDepth 100000 in
set_option maxHeartbeats 4000000 in
theorem ladvance_any (w : World) (N : Int) (R : List Rg.Re) (Ae : Option Addr) (ce : Nat) (hR : Rd w Ae (R.flatMap Rg.Re.cells)) (u v : Int) (Al : Option Addr) (l : List Ag.Act) (cl : Nat) (hL : Rd w Al (l.flatMap Ag.Act.cells)) (Ab : Option Addr) (gs : List Int) (cb : Nat) (hG8 : Rd w Ab (gs.map (.int .u8))) (hgb : ∀ x ∈ gs, 0 ≤ x ∧ x < 256) : Calls Try.prog 4 #[.agg #[.int .i64 u, .int .i64 v, .int .i64 N, .slice Ae R.length ce], .slice Al l.length cl, .slice Ab gs.length cb] w fun e_ w' => e_ = .returned (.bool true) ∧ Below w.heap.size w w' := by
  by_cases hm : MadeOk u v N R ∧ l.length ≤ 40
  obtain ⟨⟨hr, hu, hv⟩, hl⟩ := hm
  obtain ⟨N, E, rfl, rfl, hn⟩ := Rg.right_net hr
  rw [Rg.re_cells] at hR
  rw [List.length_map]
  have hgA : Ag.Good N E u (Ag.runs N E u (Ag.new u v.toNat) l) := (Ag.Good.new hn (by omega)).runs l
  obtain ⟨A0, hA0⟩ : ∃ a_, a_ = Ag.runs N E u (Ag.new u v.toNat) l := ⟨_, rfl⟩
  rw [← hA0] at hgA
  refine Fw.calls Try.func4 rfl Try.ntmps4 rfl ?_
  have HB := Below.refl (w.heap.size) w
  refine Fw.seq fun _ hK1 => ?_
  refine Fw.region ?_
  refine Fw.box rfl rfl ?_
  intro w1 gx egx Hx hb
  have lw_gx : w.heap.size ≤ gx := by have := HB.size; omega
  have lgx : w.heap.size ≤ gx := by have := HB.size; omega
  replace HB := HB.trans (hb.mono HB.size)
  clear hb
  clear egx
  refine Fw.s (Fw.val_assign rfl) rfl ?_
  refine Fw.nil ?_
  refine hK1 _ _ ?_
  refine Fw.seq fun _ hK2 => ?_
  refine Fw.region ?_
  refine Fw.ldA ag26 rfl (Fw.rdBlk Hx) rfl rfl ?_
  refine Fw.s (Fw.val_move rfl) rfl ?_
  refine Fw.call cf12 rfl rfl (run_yes _ N E Ae ce (hR.low HB) hn u v hu hv Al l cl (hL.low HB) hl) ?_
  rintro e_ w2 ⟨p1, pf1, pg1, q1, rfl, hp1, hpf1, HAg1, HRa1, hb⟩
  refine ⟨_, rfl, ?_⟩
  have hz1 := HB.size
  rw [← hA0] at HAg1 HRa1
  replace Hx := Hx.low hb
  replace HB := HB.trans (hb.mono HB.size)
  clear hb
  have hl1 := HAg1.lt
  refine Fw.s (Fw.val_move rfl) rfl ?_
  refine Fw.s (Fw.val_extract rfl rfl) rfl ?_
  refine Fw.s (Fw.val_extract rfl rfl) rfl ?_
  refine Fw.s (Fw.val_assign rfl) rfl ?_
  refine Fw.s (Fw.val_assign rfl) rfl ?_
  refine Fw.nil ?_
  refine hK2 _ _ (Fw.FC.sub (f' := [(7, _), (3, _), (1, _), (2, _)]) (.cons rfl (.cons rfl (.cons rfl (.cons rfl .nil)))) ?_)
  refine Fw.seq fun _ hK3 => ?_
  refine Fw.region ?_
  refine Fw.ldA ag26 rfl (Fw.rdBlk Hx) rfl rfl ?_
  refine Fw.s (Fw.val_move rfl) rfl ?_
  refine Fw.call cf12 rfl rfl (run_yes _ N E Ae ce (hR.low HB) hn u v hu hv Al l cl (hL.low HB) hl) ?_
  rintro e_ w3 ⟨p2, pf2, pg2, q2, rfl, hp2, hpf2, HAg2, HRa2, hb⟩
  refine ⟨_, rfl, ?_⟩
  have hz2 := HB.size
  have hl1 := HAg1.lt
  rw [← hA0] at HAg2 HRa2
  replace Hx := Hx.low hb
  replace HAg1 := HAg1.low hb
  replace HRa1 := HRa1.low hb
  replace HB := HB.trans (hb.mono HB.size)
  clear hb
  have hl2 := HAg2.lt
  refine Fw.s (Fw.val_move rfl) rfl ?_
  refine Fw.s (Fw.val_extract rfl rfl) rfl ?_
  refine Fw.s (Fw.val_extract rfl rfl) rfl ?_
  refine Fw.s (Fw.val_assign rfl) rfl ?_
  refine Fw.s (Fw.val_assign rfl) rfl ?_
  refine Fw.nil ?_
  refine hK3 _ _ (Fw.FC.sub (f' := [(10, _), (9, _), (7, _), (2, _)]) (.cons rfl (.cons rfl (.cons rfl (.cons rfl .nil)))) ?_)
  refine Fw.seq fun _ hK4 => ?_
  refine Fw.seq fun _ hK5 => ?_
  refine Fw.region ?_
  refine Fw.call cf9 rfl rfl (awake29_any _) ?_
  rintro e_ w4 ⟨rfl, hb⟩
  refine ⟨_, rfl, ?_⟩
  replace Hx := Hx.low hb
  replace HAg1 := HAg1.low hb
  replace HAg2 := HAg2.low hb
  replace HRa2 := HRa2.low hb
  replace HB := HB.trans (hb.mono HB.size)
  clear hb
  refine Fw.s (Fw.val_not rfl) rfl ?_
  refine Fw.s (Fw.val_move rfl) rfl ?_
  refine Fw.gT (d := 28) rfl rfl ?_
  refine Fw.s (Fw.val_move rfl) rfl ?_
  refine Fw.gT (d := 28) rfl rfl ?_
  refine Fw.s (Fw.val_bin rfl rfl (Fw.b_nilP Try.underlying33)) rfl ?_
  refine Fw.s (Fw.val_pickF rfl rfl) rfl ?_
  refine Fw.s (Fw.val_move rfl) rfl ?_
  refine Fw.gT (d := 32) rfl rfl ?_
  refine Fw.s (Fw.val_move rfl) rfl ?_
  refine Fw.gT (d := 32) rfl rfl ?_
  refine Fw.s (Fw.val_bin rfl rfl (Fw.b_nilP Try.underlying33)) rfl ?_
  refine Fw.s (Fw.val_pickF rfl rfl) rfl ?_
  refine Fw.s (Fw.val_move rfl) rfl ?_
  refine Fw.gT (d := 36) rfl rfl ?_
  refine Fw.s (Fw.val_move rfl) rfl ?_
  refine Fw.gT (d := 36) rfl rfl ?_
  refine Fw.s (Fw.val_len Try.underlying39 rfl) rfl ?_
  refine Fw.gT (d := 36) rfl rfl ?_
  refine Fw.s2 (Fw.val_bin rfl rfl Fw.b_gtr) rfl ?_ ?_
  rintro h60
  refine Fw.s (Fw.val_pickF rfl rfl) rfl ?_
  refine Fw.nil ?_
  refine hK5 _ _ (Fw.FC.sub (f' := [(40, _), (10, _), (9, _), (7, _), (2, _)]) (.cons rfl (.cons rfl (.cons rfl (.cons rfl (.cons rfl .nil))))) ?_)
  refine Fw.condT rfl ?_
  refine Fw.seq fun _ hK7 => ?_
  refine Fw.region ?_
  refine Fw.call cf9 rfl rfl (awake29_any _) ?_
  rintro e_ w5 ⟨rfl, hb⟩
  refine ⟨_, rfl, ?_⟩
  replace Hx := Hx.low hb
  replace HAg1 := HAg1.low hb
  replace HAg2 := HAg2.low hb
  replace HRa2 := HRa2.low hb
  replace HB := HB.trans (hb.mono HB.size)
  clear hb
  refine Fw.s (Fw.val_assign rfl) rfl ?_
  refine Fw.nil ?_
  refine hK7 _ _ ?_
  refine Fw.ret ?_
  refine Fw.X_ret ?_
  refine Fw.ret_ [.tmp 6] [_] Try.results4 (.tmp rfl .nil) ?_
  exact ⟨rfl, HB⟩
  rintro h60
  refine Fw.s (Fw.val_pickF rfl rfl) rfl ?_
  refine Fw.nil ?_
  refine hK5 _ _ (Fw.FC.sub (f' := [(40, _), (10, _), (9, _), (7, _), (2, _)]) (.cons rfl (.cons rfl (.cons rfl (.cons rfl (.cons rfl .nil))))) ?_)
  refine Fw.condF rfl ?_
  refine Fw.skip ?_
  refine hK4 _ _ ?_
  refine Fw.seq fun _ hK8 => ?_
  obtain ⟨_, s_, v_, i_, d_, pp_, A_, c_, sp_, l_, r_, HR2, _, _, _, ho_⟩ := HRa2
  have hAn := hgA.zn
  refine Fw.region ?_
  refine Fw.s (Fw.val_move rfl) rfl ?_
  refine Fw.s (Fw.val_nil rfl) rfl ?_
  refine Fw.s (Fw.val_fieldAddr fl50_8 rfl rfl) rfl ?_
  refine Fw.ld sc2 rfl (HR2.cell 14) rfl ?_
  refine Fw.s (Fw.val_assign rfl) rfl ?_
  refine Fw.nil ?_
  refine hK8 _ _ ?_
  refine Fw.seq fun _ hK9 => ?_
  refine Fw.seq fun _ hK10 => ?_
  clear HR2
  replace HAg1 : AgAt w4 p1 pf1 pg1 N E u (Ag.pass E A0 A0.n) := by rw [Ag.pass_self hgA]; exact HAg1
  refine Fw.region ?_
  refine Fw.s (Fw.val_move rfl) rfl ?_
  refine Fw.s (Fw.val_len Try.underlying39 rfl) rfl ?_
  refine Fw.s (Fw.val_move rfl) rfl ?_
  refine Fw.nil ?_
  refine hK10 _ _ (Fw.FC.sub (f' := [(48, _), (47, _), (46, _), (11, _), (9, _), (7, _)]) (.cons rfl (.cons rfl (.cons rfl (.cons rfl (.cons rfl (.cons rfl .nil)))))) ?_)
  refine Fw.block ?_
  refine Fw.loop (fun m_ f_ W_ => ∃ (k : Nat) (nw : Int), m_ = gs.length - k ∧ k ≤ gs.length ∧ (A0.n ≤ nw ∧ nw ≤ A0.n + 8 * k) ∧ AgAt W_ p1 pf1 pg1 N E u (Ag.pass E A0 nw) ∧ AgAt W_ p2 pf2 pg2 N E u A0 ∧ Below (w.heap.size) w W_ ∧ f_ = [(48, .int .i64 k), (47, .int .i64 gs.length), (46, .slice Ab gs.length cb), (11, .int .i64 nw), (9, .pointer (some ⟨p2, 0, none⟩)), (7, .pointer (some ⟨p1, 0, none⟩))]) ⟨_, _, ⟨0, A0.n, rfl, Nat.zero_le _, ⟨Int.le_refl _, by omega⟩, HAg1, HAg2, HB, rfl⟩, (.cons rfl (.cons rfl (.cons rfl (.cons rfl (.cons rfl (.cons rfl .nil))))))⟩ ?_
  clear HAg1 HAg2 HB
  rintro m11_ _ w6 ⟨k, nw, hm11_, hkl, hnw, HAg1, HAg2, HB, rfl⟩
  refine Fw.seq fun _ hK12 => ?_
  refine Fw.region ?_
  refine Fw.s2 (Fw.val_bin rfl rfl Fw.b_lss) rfl ?_ ?_
  rintro hlt
  refine Fw.nil ?_
  refine hK12 _ _ ?_
  refine Fw.seq fun _ hK14 => ?_
  refine Fw.condT rfl ?_
  refine Fw.skip ?_
  refine hK14 _ _ ?_
  refine Fw.seq fun _ hK15 => ?_
  refine Fw.block ?_
  refine Fw.seq fun _ hK16 => ?_
  have hk : k < gs.length := by omega
  obtain ⟨ad, b_, o_, hA, hadd, HC8⟩ := Fw.rdAtM hG8 k hk
  have hg8 := hgb _ (List.getElem_mem hk)
  refine Fw.region ?_
  refine Fw.s (Fw.val_indexR Try.underlying39 sz5 rfl hA rfl rfl hk hadd) rfl ?_
  refine Fw.ld sc5 rfl (((HB.cell (World.block_lt_of_cell? _ _ HC8)).trans HC8)) rfl ?_
  refine Fw.s (Fw.val_assign rfl) rfl ?_
  refine Fw.nil ?_
  refine hK16 _ _ ?_
  refine Fw.seq fun _ hK18 => ?_
  obtain ⟨nw2, hnw2⟩ : ∃ x_, x_ = nw + gs[k] % 8 := ⟨_, rfl⟩
  refine Fw.region ?_
  refine Fw.s (Fw.val_move rfl) rfl ?_
  refine Fw.s (Fw.val_move rfl) rfl ?_
  refine Fw.s (Fw.val_conv Try.underlying5 Try.underlying2 rfl (Fw.i64_ok (by omega))) rfl ?_
  refine Fw.s (Fw.val_bin rfl rfl (Fw.b_rem (by decide) (Int.tmod_eq_emod_of_nonneg hg8.1))) rfl ?_
  refine Fw.s (Fw.val_bin rfl rfl (Fw.b_add ((Fw.i64_ok (by omega)).trans hnw2.symm))) rfl ?_
  refine Fw.s (Fw.val_assign rfl) rfl ?_
  refine Fw.nil ?_
  refine hK18 _ _ (Fw.FC.sub (f' := [(11, _), (48, _), (47, _), (46, _), (9, _), (7, _)]) (.cons rfl (.cons rfl (.cons rfl (.cons rfl (.cons rfl (.cons rfl .nil)))))) ?_)
  refine Fw.region ?_
  refine Fw.s (Fw.val_move rfl) rfl ?_
  refine Fw.s (Fw.val_move rfl) rfl ?_
  refine Fw.call cf13 rfl rfl (advance_any _ p1 pf1 pg1 N E u (Ag.pass E A0 nw) HAg1 (hgA.pass nw) nw2) ?_
  rintro e_ w7 ⟨rfl, H2, hc⟩
  refine ⟨_, rfl, ?_⟩
  have hc2 : Chg (fun k => k = p1 ∨ k = pf1) w6 w7 := Chg.wk hc (fun _ e => .inl e)
  clear hc
  replace HAg2 := HAg2.other HAg1 hc2 (by omega) (by omega)
  replace HB := HB.trans (hc2.below (B := w.heap.size) (fun k e => by omega) HB.size)
  clear hc2 HAg1
  have HAg1 := H2
  clear H2
  refine Fw.nil ?_
  refine Fw.X_blockN ?_
  refine hK15 _ _ ?_
  rw [Ag.pass_pass hgA (by omega)] at HAg1
  refine Fw.region ?_
  refine Fw.s (Fw.val_bin rfl rfl (Fw.b_add (Fw.i64_ok (by omega)))) rfl ?_
  refine Fw.s (Fw.val_move rfl) rfl ?_
  refine Fw.nil ?_
  refine Fw.roundEnd _ _ (by omega) ⟨k + 1, nw2, rfl, by omega, by omega, HAg1, HAg2, HB, rfl⟩ (.cons rfl (.cons rfl (.cons rfl (.cons rfl (.cons rfl (.cons rfl .nil))))))
  rintro hlt
  refine Fw.nil ?_
  refine hK12 _ _ ?_
  refine Fw.seq fun _ hK19 => ?_
  refine Fw.condF rfl ?_
  refine Fw.exit ?_
  refine Fw.X_exit ?_
  refine Fw.X_exit ?_
  refine Fw.X_block ?_
  refine hK9 _ _ ?_
  refine Fw.seq fun _ hK20 => ?_
  refine Fw.region ?_
  refine Fw.s (Fw.val_move rfl) rfl ?_
  refine Fw.s (Fw.val_move rfl) rfl ?_
  refine Fw.call cf13 rfl rfl (advance_any _ p2 pf2 pg2 N E u A0 HAg2 hgA nw) ?_
  rintro e_ w8 ⟨rfl, H2, hc⟩
  refine ⟨_, rfl, ?_⟩
  have hc2 : Chg (fun k => k = p2 ∨ k = pf2) w6 w8 := Chg.wk hc (fun _ e => .inl e)
  clear hc
  replace HAg1 := HAg1.other HAg2 hc2 (by omega) (by omega)
  replace HB := HB.trans (hc2.below (B := w.heap.size) (fun k e => by omega) HB.size)
  clear hc2 HAg2
  have HAg2 := H2
  clear H2
  refine Fw.nil ?_
  refine hK20 _ _ (Fw.FC.sub (f' := [(9, _), (7, _)]) (.cons rfl (.cons rfl .nil)) ?_)
  refine Fw.seq fun _ hK21 => ?_
  refine Fw.region ?_
  refine Fw.s (Fw.val_move rfl) rfl ?_
  refine Fw.call cf14 rfl rfl (agState_any _ p1 pf1 pg1 N E u (Ag.pass E A0 nw) HAg1) ?_
  rintro e_ _ ⟨rfl, rfl⟩
  refine ⟨_, rfl, ?_⟩
  refine Fw.s (Fw.val_move rfl) rfl ?_
  refine Fw.call cf14 rfl rfl (agState_any _ p2 pf2 pg2 N E u (Ag.pass E A0 nw) HAg2) ?_
  rintro e_ _ ⟨rfl, rfl⟩
  refine ⟨_, rfl, ?_⟩
  refine Fw.s (Fw.Val.T (Fw.val_bin rfl rfl Fw.b_eql) (by rfl)) rfl ?_
  refine Fw.s (Fw.val_move rfl) rfl ?_
  refine Fw.gT (d := 69) rfl rfl ?_
  refine Fw.s (Fw.val_move rfl) rfl ?_
  refine Fw.gT (d := 69) rfl rfl ?_
  refine Fw.call cf15 rfl rfl (agNode_any _ p1 pf1 pg1 N E u (Ag.pass E A0 nw) HAg1) ?_
  rintro e_ _ ⟨rfl, rfl⟩
  refine ⟨_, rfl, ?_⟩
  refine Fw.gT (d := 69) rfl rfl ?_
  refine Fw.s (Fw.val_move rfl) rfl ?_
  refine Fw.gT (d := 69) rfl rfl ?_
  refine Fw.call cf15 rfl rfl (agNode_any _ p2 pf2 pg2 N E u (Ag.pass E A0 nw) HAg2) ?_
  rintro e_ _ ⟨rfl, rfl⟩
  refine ⟨_, rfl, ?_⟩
  refine Fw.gT (d := 69) rfl rfl ?_
  refine Fw.s (Fw.Val.T (Fw.val_bin rfl rfl Fw.b_eql) (by rfl)) rfl ?_
  refine Fw.s (Fw.val_pickT rfl rfl) rfl ?_
  refine Fw.s (Fw.val_move rfl) rfl ?_
  refine Fw.gT (d := 76) rfl rfl ?_
  refine Fw.s (Fw.val_move rfl) rfl ?_
  refine Fw.gT (d := 76) rfl rfl ?_
  refine Fw.call cf16 rfl rfl (agIncident_any _ p1 pf1 pg1 N E u (Ag.pass E A0 nw) HAg1) ?_
  rintro e_ _ ⟨rfl, rfl⟩
  refine ⟨_, rfl, ?_⟩
  refine Fw.gT (d := 76) rfl rfl ?_
  refine Fw.s (Fw.val_move rfl) rfl ?_
  refine Fw.gT (d := 76) rfl rfl ?_
  refine Fw.call cf16 rfl rfl (agIncident_any _ p2 pf2 pg2 N E u (Ag.pass E A0 nw) HAg2) ?_
  rintro e_ _ ⟨rfl, rfl⟩
  refine ⟨_, rfl, ?_⟩
  refine Fw.gT (d := 76) rfl rfl ?_
  refine Fw.s (Fw.Val.T (Fw.val_bin rfl rfl Fw.b_eql) (by rfl)) rfl ?_
  refine Fw.s (Fw.val_pickT rfl rfl) rfl ?_
  refine Fw.s (Fw.val_assign rfl) rfl ?_
  refine Fw.nil ?_
  refine hK21 _ _ (Fw.FC.sub (f' := [(6, _)]) (.cons rfl .nil) ?_)
  refine Fw.ret ?_
  refine Fw.ret_ [.tmp 6] [_] Try.results4 (.tmp rfl .nil) ?_
  exact ⟨rfl, HB⟩
  refine Fw.calls Try.func4 rfl Try.ntmps4 rfl ?_
  have HB := Below.refl (w.heap.size) w
  refine Fw.seq fun _ hK1 => ?_
  refine Fw.region ?_
  refine Fw.box rfl rfl ?_
  intro w1 gx egx Hx hb
  have lgx : w.heap.size ≤ gx := by have := HB.size; omega
  replace HB := HB.trans (hb.mono HB.size)
  clear hb
  clear egx
  refine Fw.s (Fw.val_assign rfl) rfl ?_
  refine Fw.nil ?_
  refine hK1 _ _ ?_
  refine Fw.seq fun _ hK2 => ?_
  refine Fw.region ?_
  refine Fw.ldA ag26 rfl (Fw.rdBlk Hx) rfl rfl ?_
  refine Fw.s (Fw.val_move rfl) rfl ?_
  refine Fw.call cf12 rfl rfl (run_no _ N R Ae ce (hR.low HB) u v Al l cl (hL.low HB) hm) ?_
  rintro e_ w2 ⟨q1, rfl, hb⟩
  refine ⟨_, rfl, ?_⟩
  replace Hx := Hx.low hb
  replace HB := HB.trans (hb.mono HB.size)
  clear hb
  refine Fw.s (Fw.val_move rfl) rfl ?_
  refine Fw.s (Fw.val_extract rfl rfl) rfl ?_
  refine Fw.s (Fw.val_extract rfl rfl) rfl ?_
  refine Fw.s (Fw.val_assign rfl) rfl ?_
  refine Fw.s (Fw.val_assign rfl) rfl ?_
  refine Fw.nil ?_
  refine hK2 _ _ (Fw.FC.sub (f' := [(7, _), (3, _), (1, _), (2, _)]) (.cons rfl (.cons rfl (.cons rfl (.cons rfl .nil)))) ?_)
  refine Fw.seq fun _ hK3 => ?_
  refine Fw.region ?_
  refine Fw.ldA ag26 rfl (Fw.rdBlk Hx) rfl rfl ?_
  refine Fw.s (Fw.val_move rfl) rfl ?_
  refine Fw.call cf12 rfl rfl (run_no _ N R Ae ce (hR.low HB) u v Al l cl (hL.low HB) hm) ?_
  rintro e_ w3 ⟨q2, rfl, hb⟩
  refine ⟨_, rfl, ?_⟩
  replace Hx := Hx.low hb
  replace HB := HB.trans (hb.mono HB.size)
  clear hb
  refine Fw.s (Fw.val_move rfl) rfl ?_
  refine Fw.s (Fw.val_extract rfl rfl) rfl ?_
  refine Fw.s (Fw.val_extract rfl rfl) rfl ?_
  refine Fw.s (Fw.val_assign rfl) rfl ?_
  refine Fw.s (Fw.val_assign rfl) rfl ?_
  refine Fw.nil ?_
  refine hK3 _ _ (Fw.FC.sub (f' := [(10, _), (9, _), (7, _), (2, _)]) (.cons rfl (.cons rfl (.cons rfl (.cons rfl .nil)))) ?_)
  refine Fw.seq fun _ hK4 => ?_
  refine Fw.seq fun _ hK5 => ?_
  refine Fw.region ?_
  refine Fw.call cf9 rfl rfl (awake29_any _) ?_
  rintro e_ w4 ⟨rfl, hb⟩
  refine ⟨_, rfl, ?_⟩
  replace Hx := Hx.low hb
  replace HB := HB.trans (hb.mono HB.size)
  clear hb
  refine Fw.s (Fw.val_not rfl) rfl ?_
  refine Fw.s (Fw.val_move rfl) rfl ?_
  refine Fw.gT (d := 28) rfl rfl ?_
  refine Fw.s (Fw.val_move rfl) rfl ?_
  refine Fw.gT (d := 28) rfl rfl ?_
  refine Fw.s (Fw.val_bin rfl rfl (Fw.b_nilP Try.underlying33)) rfl ?_
  refine Fw.s (Fw.val_pickF rfl rfl) rfl ?_
  refine Fw.s (Fw.val_move rfl) rfl ?_
  refine Fw.gF (d := 32) rfl rfl rfl rfl ?_
  refine Fw.gF (d := 32) rfl rfl rfl rfl ?_
  refine Fw.s (Fw.val_pickT rfl rfl) rfl ?_
  refine Fw.s (Fw.val_move rfl) rfl ?_
  refine Fw.gF (d := 36) rfl rfl rfl rfl ?_
  refine Fw.gF (d := 36) rfl rfl rfl rfl ?_
  refine Fw.gF (d := 36) rfl rfl rfl rfl ?_
  refine Fw.s (Fw.val_pickT rfl rfl) rfl ?_
  refine Fw.nil ?_
  refine hK5 _ _ (Fw.FC.sub (f' := [(40, _), (10, _), (9, _), (7, _), (2, _)]) (.cons rfl (.cons rfl (.cons rfl (.cons rfl (.cons rfl .nil))))) ?_)
  refine Fw.condT rfl ?_
  refine Fw.seq fun _ hK6 => ?_
  refine Fw.region ?_
  refine Fw.call cf9 rfl rfl (awake29_any _) ?_
  rintro e_ w5 ⟨rfl, hb⟩
  refine ⟨_, rfl, ?_⟩
  replace Hx := Hx.low hb
  replace HB := HB.trans (hb.mono HB.size)
  clear hb
  refine Fw.s (Fw.val_assign rfl) rfl ?_
  refine Fw.nil ?_
  refine hK6 _ _ ?_
  refine Fw.ret ?_
  refine Fw.X_ret ?_
  refine Fw.ret_ [.tmp 6] [_] Try.results4 (.tmp rfl .nil) ?_
  exact ⟨rfl, HB⟩

theorem Ag.stale_no {N : Nat} {E : List Rg.Ed} {u : Int} {a : Ag} {o : Or.O} (h : Ag.Good N E u a) (h1 : ¬ (Ag.adm N u o = true ∧ a.f.o.e < o.e)) : Ag.recvB N u a o = false := by
  unfold Ag.recvB
  cases hA : Ag.adm N u o with
  | false => rfl
  | true =>
    cases hB : Or.accB a.f o with
    | false => rfl
    | true => exact absurd ⟨hA, Ag.accB_new h.fi hB⟩ h1
theorem Ag.stale_recv {N : Nat} {E : List Rg.Ed} {u : Int} {a : Ag} {o : Or.O} (t : Int) (hA : Ag.adm N u o = true) (hB : Ag.recvB N u a o = false) : Ag.recv N E u a o t = Ag.pass E a t := by
  unfold Ag.recvB at hB
  rw [hA, Bool.true_and] at hB
  unfold Ag.recv
  rw [if_pos hA]
  unfold Ag.took
  rw [if_neg (by rw [(Ag.pass_f E a t).1, hB]; decide)]
set_option maxRecDepth 100000 in
set_option maxHeartbeats 4000000 in
theorem lstale_any (w : World) (N : Int) (R : List Rg.Re) (Ae : Option Addr) (ce : Nat) (hR : Rd w Ae (R.flatMap Rg.Re.cells)) (u v : Int) (Al : Option Addr) (l : List Ag.Act) (cl : Nat) (hL : Rd w Al (l.flatMap Ag.Act.cells)) (o : Or.O) (t0 t1 t2 : Int) : Calls Try.prog 5 #[.agg #[.int .i64 u, .int .i64 v, .int .i64 N, .slice Ae R.length ce], .slice Al l.length cl, .agg #[.int .i64 o.u, .int .i64 o.e, .int .i64 o.k, .int .i64 o.i, .int .i64 o.n, .int .i64 t0, .int .i64 t1, .int .i64 t2]] w fun e_ w' => e_ = .returned (.bool true) ∧ Below w.heap.size w w' := by
  by_cases hm : MadeOk u v N R ∧ l.length ≤ 40
  obtain ⟨⟨hr, hu, hv⟩, hl⟩ := hm
  obtain ⟨N, E, rfl, rfl, hn⟩ := Rg.right_net hr
  rw [Rg.re_cells] at hR
  rw [List.length_map]
  have hgA : Ag.Good N E u (Ag.runs N E u (Ag.new u v.toNat) l) := (Ag.Good.new hn (by omega)).runs l
  obtain ⟨A0, hA0⟩ : ∃ a_, a_ = Ag.runs N E u (Ag.new u v.toNat) l := ⟨_, rfl⟩
  rw [← hA0] at hgA
  refine Fw.calls Try.func5 rfl Try.ntmps5 rfl ?_
  have HB := Below.refl (w.heap.size) w
  refine Fw.seq fun _ hK1 => ?_
  refine Fw.region ?_
  refine Fw.box rfl rfl ?_
  intro w1 gx egx Hx hb
  have lw_gx : w.heap.size ≤ gx := by have := HB.size; omega
  have lgx : w.heap.size ≤ gx := by have := HB.size; omega
  replace HB := HB.trans (hb.mono HB.size)
  clear hb
  clear egx
  refine Fw.box rfl rfl ?_
  intro w2 gy egy Hy hb
  have n_gx_gy : gx < gy := by have := Hx.lt; omega
  have lw_gy : w.heap.size ≤ gy := by have := HB.size; omega
  have lgy : w.heap.size ≤ gy := by have := HB.size; omega
  replace Hx := Hx.low hb
  replace HB := HB.trans (hb.mono HB.size)
  clear hb
  clear egy
  refine Fw.s (Fw.val_assign rfl) rfl ?_
  refine Fw.nil ?_
  refine hK1 _ _ ?_
  refine Fw.seq fun _ hK2 => ?_
  refine Fw.region ?_
  refine Fw.ldA ag26 rfl (Fw.rdBlk Hx) rfl rfl ?_
  refine Fw.s (Fw.val_move rfl) rfl ?_
  refine Fw.call cf12 rfl rfl (run_yes _ N E Ae ce (hR.low HB) hn u v hu hv Al l cl (hL.low HB) hl) ?_
  rintro e_ w3 ⟨p1, pf1, pg1, q1, rfl, hp1, hpf1, HAg1, HRa1, hb⟩
  refine ⟨_, rfl, ?_⟩
  have hgx1 := Hx.lt
  have hgy1 := Hy.lt
  have hz1 := HB.size
  rw [← hA0] at HAg1 HRa1
  replace Hx := Hx.low hb
  replace Hy := Hy.low hb
  replace HB := HB.trans (hb.mono HB.size)
  clear hb
  have hl1 := HAg1.lt
  refine Fw.s (Fw.val_move rfl) rfl ?_
  refine Fw.s (Fw.val_extract rfl rfl) rfl ?_
  refine Fw.s (Fw.val_extract rfl rfl) rfl ?_
  refine Fw.s (Fw.val_assign rfl) rfl ?_
  refine Fw.s (Fw.val_assign rfl) rfl ?_
  refine Fw.nil ?_
  refine hK2 _ _ (Fw.FC.sub (f' := [(8, _), (7, _), (5, _), (3, _), (1, _)]) (.cons rfl (.cons rfl (.cons rfl (.cons rfl (.cons rfl .nil))))) ?_)
  refine Fw.seq fun _ hK3 => ?_
  refine Fw.region ?_
  refine Fw.ldA ag26 rfl (Fw.rdBlk Hx) rfl rfl ?_
  refine Fw.s (Fw.val_move rfl) rfl ?_
  refine Fw.call cf12 rfl rfl (run_yes _ N E Ae ce (hR.low HB) hn u v hu hv Al l cl (hL.low HB) hl) ?_
  rintro e_ w4 ⟨p2, pf2, pg2, q2, rfl, hp2, hpf2, HAg2, HRa2, hb⟩
  refine ⟨_, rfl, ?_⟩
  have hgx2 := Hx.lt
  have hgy2 := Hy.lt
  have hz2 := HB.size
  have hl1 := HAg1.lt
  rw [← hA0] at HAg2 HRa2
  replace Hx := Hx.low hb
  replace Hy := Hy.low hb
  replace HAg1 := HAg1.low hb
  replace HRa1 := HRa1.low hb
  replace HB := HB.trans (hb.mono HB.size)
  clear hb
  have hl2 := HAg2.lt
  refine Fw.s (Fw.val_move rfl) rfl ?_
  refine Fw.s (Fw.val_extract rfl rfl) rfl ?_
  refine Fw.s (Fw.val_extract rfl rfl) rfl ?_
  refine Fw.s (Fw.val_assign rfl) rfl ?_
  refine Fw.s (Fw.val_assign rfl) rfl ?_
  refine Fw.nil ?_
  refine hK3 _ _ (Fw.FC.sub (f' := [(9, _), (8, _), (7, _), (5, _)]) (.cons rfl (.cons rfl (.cons rfl (.cons rfl .nil)))) ?_)
  refine Fw.seq fun _ hK4 => ?_
  refine Fw.seq fun _ hK5 => ?_
  refine Fw.regionQ (by kernel_rfl) (by kernel_rfl) ?_
  refine Fw.callQ cf9 rfl rfl (fun w_ hb_ => awake29_any _) (fun _ _ _ h => h) ?_
  refine Fw.q (Fw.val_not rfl) rfl ?_
  refine Fw.q (Fw.val_move rfl) rfl ?_
  refine Fw.gTQ (d := 28) rfl rfl ?_
  refine Fw.q (Fw.val_move rfl) rfl ?_
  refine Fw.gTQ (d := 28) rfl rfl ?_
  refine Fw.q (Fw.val_bin rfl rfl (Fw.b_nilP Try.underlying33)) rfl ?_
  refine Fw.q (Fw.val_pickF rfl rfl) rfl ?_
  refine Fw.q (Fw.val_move rfl) rfl ?_
  refine Fw.gTQ (d := 32) rfl rfl ?_
  refine Fw.q (Fw.val_move rfl) rfl ?_
  refine Fw.gTQ (d := 32) rfl rfl ?_
  refine Fw.q (Fw.val_bin rfl rfl (Fw.b_nilP Try.underlying33)) rfl ?_
  refine Fw.q (Fw.val_pickF rfl rfl) rfl ?_
  refine Fw.q (Fw.val_move rfl) rfl ?_
  refine Fw.gTQ (d := 36) rfl rfl ?_
  refine Fw.q (Fw.val_move rfl) rfl ?_
  refine Fw.gTQ (d := 36) rfl rfl ?_
  refine Fw.q (Fw.val_fieldAddr fl57_0 rfl rfl) rfl ?_
  refine Fw.gTQ (d := 36) rfl rfl ?_
  refine Fw.ldAQ ag43 rfl (Fw.rdPart (Fw.rdBlk Hy) 0 5) rfl rfl ?_
  refine Fw.gTQ (d := 36) rfl rfl ?_
  refine Fw.callQ cf17 rfl rfl (fun w_ hb_ => rright29_any _ _ q1 N E u Ae ce A0.n A0.f (HRa1.low hb_) o) (fun _ _ _ h => h) ?_
  refine Fw.b2Q ?_ ?_
  rintro hadm
  refine Fw.gTQ (d := 36) rfl rfl ?_
  refine Fw.q (Fw.val_move rfl) rfl ?_
  refine Fw.gTQ (d := 41) rfl rfl ?_
  refine Fw.q (Fw.val_fieldAddr fl57_0 rfl rfl) rfl ?_
  refine Fw.gTQ (d := 41) rfl rfl ?_
  refine Fw.q (Fw.val_fieldAddr fl43_1 rfl rfl) rfl ?_
  refine Fw.gTQ (d := 41) rfl rfl ?_
  refine Fw.ldQ sc2 rfl (Hy.cell 1) rfl ?_
  refine Fw.gTQ (d := 41) rfl rfl ?_
  refine Fw.q (Fw.val_move rfl) rfl ?_
  refine Fw.gTQ (d := 41) rfl rfl ?_
  refine Fw.callQ cf18 rfl rfl (fun w_ hb_ => rEpoch_any _ _ q1 N E u Ae ce A0.n A0.f (HRa1.low hb_)) (fun _ _ _ h => ⟨h.1, h.2 ▸ Below.refl _ _⟩) ?_
  refine Fw.gTQ (d := 41) rfl rfl ?_
  refine Fw.q2 (Fw.val_bin rfl rfl Fw.b_gtr) rfl ?_ ?_
  rintro hnw
  refine Fw.gTQ (d := 36) rfl rfl ?_
  refine Fw.q (Fw.val_pickT rfl rfl) rfl ?_
  refine Fw.q (Fw.val_pickF rfl rfl) rfl ?_
  refine Fw.nilQ ?_
  intro w5 hb
  replace Hx := Hx.low hb
  replace Hy := Hy.low hb
  replace HAg1 := HAg1.low hb
  replace HRa1 := HRa1.low hb
  replace HAg2 := HAg2.low hb
  replace HB := HB.trans (hb.mono HB.size)
  clear hb
  refine hK5 _ _ (Fw.FC.sub (f' := [(49, _), (9, _), (8, _), (7, _), (5, _)]) (.cons rfl (.cons rfl (.cons rfl (.cons rfl (.cons rfl .nil))))) ?_)
  refine Fw.condT rfl ?_
  refine Fw.seq fun _ hK7 => ?_
  refine Fw.region ?_
  refine Fw.call cf9 rfl rfl (awake29_any _) ?_
  rintro e_ w6 ⟨rfl, hb⟩
  refine ⟨_, rfl, ?_⟩
  replace Hx := Hx.low hb
  replace Hy := Hy.low hb
  replace HAg1 := HAg1.low hb
  replace HRa1 := HRa1.low hb
  replace HAg2 := HAg2.low hb
  replace HB := HB.trans (hb.mono HB.size)
  clear hb
  refine Fw.s (Fw.val_assign rfl) rfl ?_
  refine Fw.nil ?_
  refine hK7 _ _ ?_
  refine Fw.ret ?_
  refine Fw.X_ret ?_
  refine Fw.ret_ [.tmp 6] [_] Try.results5 (.tmp rfl .nil) ?_
  exact ⟨rfl, HB⟩
  rintro hnw
  refine Fw.gTQ (d := 36) rfl rfl ?_
  refine Fw.q (Fw.val_pickT rfl rfl) rfl ?_
  refine Fw.q (Fw.val_pickF rfl rfl) rfl ?_
  refine Fw.nilQ ?_
  intro w7 hb
  replace Hx := Hx.low hb
  replace Hy := Hy.low hb
  replace HAg1 := HAg1.low hb
  replace HRa1 := HRa1.low hb
  replace HAg2 := HAg2.low hb
  replace HB := HB.trans (hb.mono HB.size)
  clear hb
  refine hK5 _ _ (Fw.FC.sub (f' := [(49, _), (9, _), (8, _), (7, _), (5, _)]) (.cons rfl (.cons rfl (.cons rfl (.cons rfl (.cons rfl .nil))))) ?_)
  refine Fw.condF rfl ?_
  refine Fw.skip ?_
  refine hK4 _ _ ?_
  refine Fw.seq fun _ hK8 => ?_
  have hst : ¬ (Ag.adm N u o = true ∧ A0.f.o.e < o.e) := fun k => by
    have k1 := k.1
    have k2 := k.2
    omega
  have hrb := Ag.stale_no hgA hst
  refine Fw.region ?_
  refine Fw.s (Fw.val_fieldAddr fl57_1 rfl rfl) rfl ?_
  refine Fw.s (Fw.val_indexP (m := 0) Try.underlying55 sz2 rfl rfl rfl (by decide) rfl) rfl ?_
  refine Fw.ld sc2 rfl (Hy.cell 5) rfl ?_
  refine Fw.s (Fw.val_assign rfl) rfl ?_
  refine Fw.nil ?_
  refine hK8 _ _ ?_
  refine Fw.seq fun _ hK9 => ?_
  refine Fw.region ?_
  refine Fw.s (Fw.val_move rfl) rfl ?_
  refine Fw.s (Fw.val_fieldAddr fl57_0 rfl rfl) rfl ?_
  refine Fw.ldA ag43 rfl (Fw.rdPart (Fw.rdBlk Hy) 0 5) rfl rfl ?_
  refine Fw.s (Fw.val_move rfl) rfl ?_
  refine Fw.call cf19 rfl rfl (receive_any _ p1 pf1 pg1 N E u A0 HAg1 hgA o t0) ?_
  rintro e_ w8 ⟨rfl, H2, hc⟩
  refine ⟨_, rfl, ?_⟩
  have hc2 : Chg (fun k => k = p1 ∨ k = pf1) w7 w8 := hc
  clear hc
  replace Hx := Hx.chg hc2 (by omega)
  replace Hy := Hy.chg hc2 (by omega)
  replace HRa1 := HRa1.other HAg1 hc2 (by omega) (by omega)
  replace HAg2 := HAg2.other HAg1 hc2 (by omega) (by omega)
  replace HB := HB.trans (hc2.below (B := w.heap.size) (fun k e => by omega) HB.size)
  clear hc2 HAg1
  have HAg1 := H2
  clear H2
  rw [hrb]
  refine Fw.s (Fw.val_move rfl) rfl ?_
  refine Fw.s (Fw.val_extract rfl rfl) rfl ?_
  refine Fw.s (Fw.val_extract rfl rfl) rfl ?_
  refine Fw.s (Fw.val_assign rfl) rfl ?_
  refine Fw.s (Fw.val_assign rfl) rfl ?_
  refine Fw.nil ?_
  refine hK9 _ _ (Fw.FC.sub (f' := [(13, _), (12, _), (11, _), (9, _), (8, _), (7, _), (5, _)]) (.cons rfl (.cons rfl (.cons rfl (.cons rfl (.cons rfl (.cons rfl (.cons rfl .nil))))))) ?_)
  refine Fw.seq fun _ hK10 => ?_
  refine Fw.seq fun _ hK11 => ?_
  refine Fw.region ?_
  refine Fw.s (Fw.val_move rfl) rfl ?_
  refine Fw.s (Fw.val_move rfl) rfl ?_
  refine Fw.gT (d := 63) rfl rfl ?_
  refine Fw.s (Fw.val_move rfl) rfl ?_
  refine Fw.gT (d := 63) rfl rfl ?_
  refine Fw.s (Fw.Val.T (Fw.val_bin rfl rfl Fw.b_eql) (by show Ag.recvE N u o = 0; unfold Ag.recvE; rw [if_pos hadm])) rfl ?_
  refine Fw.gT (d := 63) rfl rfl ?_
  refine Fw.s (Fw.val_move rfl) rfl ?_
  refine Fw.gT (d := 63) rfl rfl ?_
  refine Fw.s (Fw.val_fieldAddr fl57_0 rfl rfl) rfl ?_
  refine Fw.gT (d := 63) rfl rfl ?_
  refine Fw.ldA ag43 rfl (Fw.rdPart (Fw.rdBlk Hy) 0 5) rfl rfl ?_
  refine Fw.gT (d := 63) rfl rfl ?_
  refine Fw.call cf17 rfl rfl (rright29_any _ _ q1 N E u Ae ce A0.n A0.f HRa1 o) ?_
  rintro e_ w9 ⟨rfl, hb⟩
  refine ⟨_, rfl, ?_⟩
  replace Hx := Hx.low hb
  replace Hy := Hy.low hb
  replace HAg1 := HAg1.low hb
  replace HRa1 := HRa1.low hb
  replace HAg2 := HAg2.low hb
  replace HB := HB.trans (hb.mono HB.size)
  clear hb
  refine Fw.bT (by exact hadm) ?_
  refine Fw.gT (d := 63) rfl rfl ?_
  refine Fw.s (Fw.Val.F (Fw.val_bin rfl rfl (Fw.b_neqB Try.underlying4)) (by decide)) rfl ?_
  refine Fw.s (Fw.val_pickF rfl rfl) rfl ?_
  refine Fw.nil ?_
  refine hK11 _ _ (Fw.FC.sub (f' := [(71, _), (13, _), (11, _), (9, _), (7, _)]) (.cons rfl (.cons rfl (.cons rfl (.cons rfl (.cons rfl .nil))))) ?_)
  refine Fw.condF rfl ?_
  refine Fw.skip ?_
  refine hK10 _ _ ?_
  refine Fw.seq fun _ hK12 => ?_
  refine Fw.seq fun _ hK13 => ?_
  refine Fw.region ?_
  refine Fw.s (Fw.val_move rfl) rfl ?_
  refine Fw.s (Fw.Val.T (Fw.val_bin rfl rfl Fw.b_eql) (by show Ag.recvE N u o = 0; unfold Ag.recvE; rw [if_pos hadm])) rfl ?_
  refine Fw.nil ?_
  refine hK13 _ _ ?_
  refine Fw.condT rfl ?_
  refine Fw.region ?_
  refine Fw.s (Fw.val_move rfl) rfl ?_
  refine Fw.s (Fw.val_move rfl) rfl ?_
  refine Fw.call cf13 rfl rfl (advance_any _ p2 pf2 pg2 N E u A0 HAg2 hgA t0) ?_
  rintro e_ w10 ⟨rfl, H2, hc⟩
  refine ⟨_, rfl, ?_⟩
  have hc2 : Chg (fun k => k = p2 ∨ k = pf2) w9 w10 := Chg.wk hc (fun _ e => .inl e)
  clear hc
  replace Hx := Hx.chg hc2 (by omega)
  replace Hy := Hy.chg hc2 (by omega)
  replace HAg1 := HAg1.other HAg2 hc2 (by omega) (by omega)
  replace HRa1 := HRa1.other HAg2 hc2 (by omega) (by omega)
  replace HB := HB.trans (hc2.below (B := w.heap.size) (fun k e => by omega) HB.size)
  clear hc2 HAg2
  have HAg2 := H2
  clear H2
  refine Fw.nil ?_
  refine hK12 _ _ (Fw.FC.sub (f' := [(9, _), (7, _)]) (.cons rfl (.cons rfl .nil)) ?_)
  refine Fw.seq fun _ hK14 => ?_
  rw [Ag.stale_recv t0 hadm hrb] at HAg1
  refine Fw.region ?_
  refine Fw.s (Fw.val_move rfl) rfl ?_
  refine Fw.call cf14 rfl rfl (agState_any _ p1 pf1 pg1 N E u (Ag.pass E A0 t0) HAg1) ?_
  rintro e_ _ ⟨rfl, rfl⟩
  refine ⟨_, rfl, ?_⟩
  refine Fw.s (Fw.val_move rfl) rfl ?_
  refine Fw.call cf14 rfl rfl (agState_any _ p2 pf2 pg2 N E u (Ag.pass E A0 t0) HAg2) ?_
  rintro e_ _ ⟨rfl, rfl⟩
  refine ⟨_, rfl, ?_⟩
  refine Fw.s (Fw.Val.T (Fw.val_bin rfl rfl Fw.b_eql) (by rfl)) rfl ?_
  refine Fw.s (Fw.val_move rfl) rfl ?_
  refine Fw.gT (d := 82) rfl rfl ?_
  refine Fw.s (Fw.val_move rfl) rfl ?_
  refine Fw.gT (d := 82) rfl rfl ?_
  refine Fw.call cf15 rfl rfl (agNode_any _ p1 pf1 pg1 N E u (Ag.pass E A0 t0) HAg1) ?_
  rintro e_ _ ⟨rfl, rfl⟩
  refine ⟨_, rfl, ?_⟩
  refine Fw.gT (d := 82) rfl rfl ?_
  refine Fw.s (Fw.val_move rfl) rfl ?_
  refine Fw.gT (d := 82) rfl rfl ?_
  refine Fw.call cf15 rfl rfl (agNode_any _ p2 pf2 pg2 N E u (Ag.pass E A0 t0) HAg2) ?_
  rintro e_ _ ⟨rfl, rfl⟩
  refine ⟨_, rfl, ?_⟩
  refine Fw.gT (d := 82) rfl rfl ?_
  refine Fw.s (Fw.Val.T (Fw.val_bin rfl rfl Fw.b_eql) (by rfl)) rfl ?_
  refine Fw.s (Fw.val_pickT rfl rfl) rfl ?_
  refine Fw.s (Fw.val_move rfl) rfl ?_
  refine Fw.gT (d := 89) rfl rfl ?_
  refine Fw.s (Fw.val_move rfl) rfl ?_
  refine Fw.gT (d := 89) rfl rfl ?_
  refine Fw.call cf16 rfl rfl (agIncident_any _ p1 pf1 pg1 N E u (Ag.pass E A0 t0) HAg1) ?_
  rintro e_ _ ⟨rfl, rfl⟩
  refine ⟨_, rfl, ?_⟩
  refine Fw.gT (d := 89) rfl rfl ?_
  refine Fw.s (Fw.val_move rfl) rfl ?_
  refine Fw.gT (d := 89) rfl rfl ?_
  refine Fw.call cf16 rfl rfl (agIncident_any _ p2 pf2 pg2 N E u (Ag.pass E A0 t0) HAg2) ?_
  rintro e_ _ ⟨rfl, rfl⟩
  refine ⟨_, rfl, ?_⟩
  refine Fw.gT (d := 89) rfl rfl ?_
  refine Fw.s (Fw.Val.T (Fw.val_bin rfl rfl Fw.b_eql) (by rfl)) rfl ?_
  refine Fw.s (Fw.val_pickT rfl rfl) rfl ?_
  refine Fw.s (Fw.val_move rfl) rfl ?_
  refine Fw.gT (d := 96) rfl rfl ?_
  refine Fw.s (Fw.val_move rfl) rfl ?_
  refine Fw.gT (d := 96) rfl rfl ?_
  refine Fw.call cf20 rfl rfl (agEpoch_any _ p1 pf1 pg1 N E u (Ag.pass E A0 t0) HAg1) ?_
  rintro e_ w11 ⟨rfl, hb⟩
  refine ⟨_, rfl, ?_⟩
  replace Hx := Hx.low hb
  replace Hy := Hy.low hb
  replace HAg1 := HAg1.low hb
  replace HRa1 := HRa1.low hb
  replace HAg2 := HAg2.low hb
  replace HB := HB.trans (hb.mono HB.size)
  clear hb
  refine Fw.gT (d := 96) rfl rfl ?_
  refine Fw.s (Fw.val_move rfl) rfl ?_
  refine Fw.gT (d := 96) rfl rfl ?_
  refine Fw.call cf20 rfl rfl (agEpoch_any _ p2 pf2 pg2 N E u (Ag.pass E A0 t0) HAg2) ?_
  rintro e_ w12 ⟨rfl, hb⟩
  refine ⟨_, rfl, ?_⟩
  replace Hx := Hx.low hb
  replace Hy := Hy.low hb
  replace HAg1 := HAg1.low hb
  replace HRa1 := HRa1.low hb
  replace HAg2 := HAg2.low hb
  replace HB := HB.trans (hb.mono HB.size)
  clear hb
  refine Fw.gT (d := 96) rfl rfl ?_
  refine Fw.s (Fw.Val.T (Fw.val_bin rfl rfl Fw.b_eql) (by rfl)) rfl ?_
  refine Fw.s (Fw.val_pickT rfl rfl) rfl ?_
  refine Fw.s (Fw.val_assign rfl) rfl ?_
  refine Fw.nil ?_
  refine hK14 _ _ (Fw.FC.sub (f' := [(6, _)]) (.cons rfl .nil) ?_)
  refine Fw.ret ?_
  refine Fw.ret_ [.tmp 6] [_] Try.results5 (.tmp rfl .nil) ?_
  exact ⟨rfl, HB⟩
  rintro hadm
  refine Fw.gTQ (d := 36) rfl rfl ?_
  refine Fw.q (Fw.val_move rfl) rfl ?_
  refine Fw.gFQ (d := 41) rfl rfl rfl rfl ?_
  refine Fw.gFQ (d := 41) rfl rfl rfl rfl ?_
  refine Fw.gFQ (d := 41) rfl rfl rfl rfl ?_
  refine Fw.gFQ (d := 41) rfl rfl rfl rfl ?_
  refine Fw.gFQ (d := 41) rfl rfl rfl rfl ?_
  refine Fw.gFQ (d := 41) rfl rfl rfl rfl ?_
  refine Fw.gTQ (d := 36) rfl rfl ?_
  refine Fw.q (Fw.val_pickF rfl rfl) rfl ?_
  refine Fw.q (Fw.val_pickF rfl rfl) rfl ?_
  refine Fw.nilQ ?_
  intro w13 hb
  replace Hx := Hx.low hb
  replace Hy := Hy.low hb
  replace HAg1 := HAg1.low hb
  replace HRa1 := HRa1.low hb
  replace HAg2 := HAg2.low hb
  replace HB := HB.trans (hb.mono HB.size)
  clear hb
  refine hK5 _ _ (Fw.FC.sub (f' := [(49, _), (9, _), (8, _), (7, _), (5, _)]) (.cons rfl (.cons rfl (.cons rfl (.cons rfl (.cons rfl .nil))))) ?_)
  refine Fw.condF rfl ?_
  refine Fw.skip ?_
  refine hK4 _ _ ?_
  refine Fw.seq fun _ hK15 => ?_
  have hst : ¬ (Ag.adm N u o = true ∧ A0.f.o.e < o.e) := fun k => by
    have k1 := k.1
    have k2 := k.2
    rw [hadm] at k1; cases k1
  have hrb := Ag.stale_no hgA hst
  refine Fw.region ?_
  refine Fw.s (Fw.val_fieldAddr fl57_1 rfl rfl) rfl ?_
  refine Fw.s (Fw.val_indexP (m := 0) Try.underlying55 sz2 rfl rfl rfl (by decide) rfl) rfl ?_
  refine Fw.ld sc2 rfl (Hy.cell 5) rfl ?_
  refine Fw.s (Fw.val_assign rfl) rfl ?_
  refine Fw.nil ?_
  refine hK15 _ _ ?_
  refine Fw.seq fun _ hK16 => ?_
  refine Fw.region ?_
  refine Fw.s (Fw.val_move rfl) rfl ?_
  refine Fw.s (Fw.val_fieldAddr fl57_0 rfl rfl) rfl ?_
  refine Fw.ldA ag43 rfl (Fw.rdPart (Fw.rdBlk Hy) 0 5) rfl rfl ?_
  refine Fw.s (Fw.val_move rfl) rfl ?_
  refine Fw.call cf19 rfl rfl (receive_any _ p1 pf1 pg1 N E u A0 HAg1 hgA o t0) ?_
  rintro e_ w14 ⟨rfl, H2, hc⟩
  refine ⟨_, rfl, ?_⟩
  have hc2 : Chg (fun k => k = p1 ∨ k = pf1) w13 w14 := hc
  clear hc
  replace Hx := Hx.chg hc2 (by omega)
  replace Hy := Hy.chg hc2 (by omega)
  replace HRa1 := HRa1.other HAg1 hc2 (by omega) (by omega)
  replace HAg2 := HAg2.other HAg1 hc2 (by omega) (by omega)
  replace HB := HB.trans (hc2.below (B := w.heap.size) (fun k e => by omega) HB.size)
  clear hc2 HAg1
  have HAg1 := H2
  clear H2
  rw [hrb]
  refine Fw.s (Fw.val_move rfl) rfl ?_
  refine Fw.s (Fw.val_extract rfl rfl) rfl ?_
  refine Fw.s (Fw.val_extract rfl rfl) rfl ?_
  refine Fw.s (Fw.val_assign rfl) rfl ?_
  refine Fw.s (Fw.val_assign rfl) rfl ?_
  refine Fw.nil ?_
  refine hK16 _ _ (Fw.FC.sub (f' := [(13, _), (12, _), (11, _), (9, _), (8, _), (7, _), (5, _)]) (.cons rfl (.cons rfl (.cons rfl (.cons rfl (.cons rfl (.cons rfl (.cons rfl .nil))))))) ?_)
  refine Fw.seq fun _ hK17 => ?_
  refine Fw.seq fun _ hK18 => ?_
  refine Fw.region ?_
  refine Fw.s (Fw.val_move rfl) rfl ?_
  refine Fw.s (Fw.val_move rfl) rfl ?_
  refine Fw.gT (d := 63) rfl rfl ?_
  refine Fw.s (Fw.val_move rfl) rfl ?_
  refine Fw.gT (d := 63) rfl rfl ?_
  refine Fw.s (Fw.Val.F (Fw.val_bin rfl rfl Fw.b_eql) (by show ¬ Ag.recvE N u o = 0; unfold Ag.recvE; rw [if_neg (by rw [hadm]; decide)]; decide)) rfl ?_
  refine Fw.gT (d := 63) rfl rfl ?_
  refine Fw.s (Fw.val_move rfl) rfl ?_
  refine Fw.gT (d := 63) rfl rfl ?_
  refine Fw.s (Fw.val_fieldAddr fl57_0 rfl rfl) rfl ?_
  refine Fw.gT (d := 63) rfl rfl ?_
  refine Fw.ldA ag43 rfl (Fw.rdPart (Fw.rdBlk Hy) 0 5) rfl rfl ?_
  refine Fw.gT (d := 63) rfl rfl ?_
  refine Fw.call cf17 rfl rfl (rright29_any _ _ q1 N E u Ae ce A0.n A0.f HRa1 o) ?_
  rintro e_ w15 ⟨rfl, hb⟩
  refine ⟨_, rfl, ?_⟩
  replace Hx := Hx.low hb
  replace Hy := Hy.low hb
  replace HAg1 := HAg1.low hb
  replace HRa1 := HRa1.low hb
  replace HAg2 := HAg2.low hb
  replace HB := HB.trans (hb.mono HB.size)
  clear hb
  refine Fw.bF (by exact hadm) ?_
  refine Fw.gT (d := 63) rfl rfl ?_
  refine Fw.s (Fw.Val.F (Fw.val_bin rfl rfl (Fw.b_neqB Try.underlying4)) (by decide)) rfl ?_
  refine Fw.s (Fw.val_pickF rfl rfl) rfl ?_
  refine Fw.nil ?_
  refine hK18 _ _ (Fw.FC.sub (f' := [(71, _), (13, _), (11, _), (9, _), (7, _)]) (.cons rfl (.cons rfl (.cons rfl (.cons rfl (.cons rfl .nil))))) ?_)
  refine Fw.condF rfl ?_
  refine Fw.skip ?_
  refine hK17 _ _ ?_
  refine Fw.seq fun _ hK19 => ?_
  refine Fw.seq fun _ hK20 => ?_
  refine Fw.region ?_
  refine Fw.s (Fw.val_move rfl) rfl ?_
  refine Fw.s (Fw.Val.F (Fw.val_bin rfl rfl Fw.b_eql) (by show ¬ Ag.recvE N u o = 0; unfold Ag.recvE; rw [if_neg (by rw [hadm]; decide)]; decide)) rfl ?_
  refine Fw.nil ?_
  refine hK20 _ _ ?_
  refine Fw.condF rfl ?_
  refine Fw.skip ?_
  refine hK19 _ _ ?_
  refine Fw.seq fun _ hK21 => ?_
  have e_ : Ag.recv N E u A0 o t0 = A0 := by unfold Ag.recv; rw [if_neg (by rw [hadm]; decide)]
  rw [e_] at HAg1
  refine Fw.region ?_
  refine Fw.s (Fw.val_move rfl) rfl ?_
  refine Fw.call cf14 rfl rfl (agState_any _ p1 pf1 pg1 N E u (A0) HAg1) ?_
  rintro e_ _ ⟨rfl, rfl⟩
  refine ⟨_, rfl, ?_⟩
  refine Fw.s (Fw.val_move rfl) rfl ?_
  refine Fw.call cf14 rfl rfl (agState_any _ p2 pf2 pg2 N E u (A0) HAg2) ?_
  rintro e_ _ ⟨rfl, rfl⟩
  refine ⟨_, rfl, ?_⟩
  refine Fw.s (Fw.Val.T (Fw.val_bin rfl rfl Fw.b_eql) (by rfl)) rfl ?_
  refine Fw.s (Fw.val_move rfl) rfl ?_
  refine Fw.gT (d := 82) rfl rfl ?_
  refine Fw.s (Fw.val_move rfl) rfl ?_
  refine Fw.gT (d := 82) rfl rfl ?_
  refine Fw.call cf15 rfl rfl (agNode_any _ p1 pf1 pg1 N E u (A0) HAg1) ?_
  rintro e_ _ ⟨rfl, rfl⟩
  refine ⟨_, rfl, ?_⟩
  refine Fw.gT (d := 82) rfl rfl ?_
  refine Fw.s (Fw.val_move rfl) rfl ?_
  refine Fw.gT (d := 82) rfl rfl ?_
  refine Fw.call cf15 rfl rfl (agNode_any _ p2 pf2 pg2 N E u (A0) HAg2) ?_
  rintro e_ _ ⟨rfl, rfl⟩
  refine ⟨_, rfl, ?_⟩
  refine Fw.gT (d := 82) rfl rfl ?_
  refine Fw.s (Fw.Val.T (Fw.val_bin rfl rfl Fw.b_eql) (by rfl)) rfl ?_
  refine Fw.s (Fw.val_pickT rfl rfl) rfl ?_
  refine Fw.s (Fw.val_move rfl) rfl ?_
  refine Fw.gT (d := 89) rfl rfl ?_
  refine Fw.s (Fw.val_move rfl) rfl ?_
  refine Fw.gT (d := 89) rfl rfl ?_
  refine Fw.call cf16 rfl rfl (agIncident_any _ p1 pf1 pg1 N E u (A0) HAg1) ?_
  rintro e_ _ ⟨rfl, rfl⟩
  refine ⟨_, rfl, ?_⟩
  refine Fw.gT (d := 89) rfl rfl ?_
  refine Fw.s (Fw.val_move rfl) rfl ?_
  refine Fw.gT (d := 89) rfl rfl ?_
  refine Fw.call cf16 rfl rfl (agIncident_any _ p2 pf2 pg2 N E u (A0) HAg2) ?_
  rintro e_ _ ⟨rfl, rfl⟩
  refine ⟨_, rfl, ?_⟩
  refine Fw.gT (d := 89) rfl rfl ?_
  refine Fw.s (Fw.Val.T (Fw.val_bin rfl rfl Fw.b_eql) (by rfl)) rfl ?_
  refine Fw.s (Fw.val_pickT rfl rfl) rfl ?_
  refine Fw.s (Fw.val_move rfl) rfl ?_
  refine Fw.gT (d := 96) rfl rfl ?_
  refine Fw.s (Fw.val_move rfl) rfl ?_
  refine Fw.gT (d := 96) rfl rfl ?_
  refine Fw.call cf20 rfl rfl (agEpoch_any _ p1 pf1 pg1 N E u (A0) HAg1) ?_
  rintro e_ w16 ⟨rfl, hb⟩
  refine ⟨_, rfl, ?_⟩
  replace Hx := Hx.low hb
  replace Hy := Hy.low hb
  replace HAg1 := HAg1.low hb
  replace HRa1 := HRa1.low hb
  replace HAg2 := HAg2.low hb
  replace HB := HB.trans (hb.mono HB.size)
  clear hb
  refine Fw.gT (d := 96) rfl rfl ?_
  refine Fw.s (Fw.val_move rfl) rfl ?_
  refine Fw.gT (d := 96) rfl rfl ?_
  refine Fw.call cf20 rfl rfl (agEpoch_any _ p2 pf2 pg2 N E u (A0) HAg2) ?_
  rintro e_ w17 ⟨rfl, hb⟩
  refine ⟨_, rfl, ?_⟩
  replace Hx := Hx.low hb
  replace Hy := Hy.low hb
  replace HAg1 := HAg1.low hb
  replace HRa1 := HRa1.low hb
  replace HAg2 := HAg2.low hb
  replace HB := HB.trans (hb.mono HB.size)
  clear hb
  refine Fw.gT (d := 96) rfl rfl ?_
  refine Fw.s (Fw.Val.T (Fw.val_bin rfl rfl Fw.b_eql) (by rfl)) rfl ?_
  refine Fw.s (Fw.val_pickT rfl rfl) rfl ?_
  refine Fw.s (Fw.val_assign rfl) rfl ?_
  refine Fw.nil ?_
  refine hK21 _ _ (Fw.FC.sub (f' := [(6, _)]) (.cons rfl .nil) ?_)
  refine Fw.ret ?_
  refine Fw.ret_ [.tmp 6] [_] Try.results5 (.tmp rfl .nil) ?_
  exact ⟨rfl, HB⟩
  refine Fw.calls Try.func5 rfl Try.ntmps5 rfl ?_
  have HB := Below.refl (w.heap.size) w
  refine Fw.seq fun _ hK1 => ?_
  refine Fw.region ?_
  refine Fw.box rfl rfl ?_
  intro w1 gx egx Hx hb
  have lgx : w.heap.size ≤ gx := by have := HB.size; omega
  replace HB := HB.trans (hb.mono HB.size)
  clear hb
  clear egx
  refine Fw.box rfl rfl ?_
  intro w2 gy egy Hy hb
  have n_gx_gy : gx < gy := by have := Hx.lt; omega
  have lgy : w.heap.size ≤ gy := by have := HB.size; omega
  replace Hx := Hx.low hb
  replace HB := HB.trans (hb.mono HB.size)
  clear hb
  clear egy
  refine Fw.s (Fw.val_assign rfl) rfl ?_
  refine Fw.nil ?_
  refine hK1 _ _ ?_
  refine Fw.seq fun _ hK2 => ?_
  refine Fw.region ?_
  refine Fw.ldA ag26 rfl (Fw.rdBlk Hx) rfl rfl ?_
  refine Fw.s (Fw.val_move rfl) rfl ?_
  refine Fw.call cf12 rfl rfl (run_no _ N R Ae ce (hR.low HB) u v Al l cl (hL.low HB) hm) ?_
  rintro e_ w3 ⟨q1, rfl, hb⟩
  refine ⟨_, rfl, ?_⟩
  replace Hx := Hx.low hb
  replace Hy := Hy.low hb
  replace HB := HB.trans (hb.mono HB.size)
  clear hb
  refine Fw.s (Fw.val_move rfl) rfl ?_
  refine Fw.s (Fw.val_extract rfl rfl) rfl ?_
  refine Fw.s (Fw.val_extract rfl rfl) rfl ?_
  refine Fw.s (Fw.val_assign rfl) rfl ?_
  refine Fw.s (Fw.val_assign rfl) rfl ?_
  refine Fw.nil ?_
  refine hK2 _ _ (Fw.FC.sub (f' := [(8, _), (7, _), (5, _), (3, _), (1, _)]) (.cons rfl (.cons rfl (.cons rfl (.cons rfl (.cons rfl .nil))))) ?_)
  refine Fw.seq fun _ hK3 => ?_
  refine Fw.region ?_
  refine Fw.ldA ag26 rfl (Fw.rdBlk Hx) rfl rfl ?_
  refine Fw.s (Fw.val_move rfl) rfl ?_
  refine Fw.call cf12 rfl rfl (run_no _ N R Ae ce (hR.low HB) u v Al l cl (hL.low HB) hm) ?_
  rintro e_ w4 ⟨q2, rfl, hb⟩
  refine ⟨_, rfl, ?_⟩
  replace Hx := Hx.low hb
  replace Hy := Hy.low hb
  replace HB := HB.trans (hb.mono HB.size)
  clear hb
  refine Fw.s (Fw.val_move rfl) rfl ?_
  refine Fw.s (Fw.val_extract rfl rfl) rfl ?_
  refine Fw.s (Fw.val_extract rfl rfl) rfl ?_
  refine Fw.s (Fw.val_assign rfl) rfl ?_
  refine Fw.s (Fw.val_assign rfl) rfl ?_
  refine Fw.nil ?_
  refine hK3 _ _ (Fw.FC.sub (f' := [(9, _), (8, _), (7, _), (5, _)]) (.cons rfl (.cons rfl (.cons rfl (.cons rfl .nil)))) ?_)
  refine Fw.seq fun _ hK4 => ?_
  refine Fw.seq fun _ hK5 => ?_
  refine Fw.regionQ (by kernel_rfl) (by kernel_rfl) ?_
  refine Fw.callQ cf9 rfl rfl (fun w_ hb_ => awake29_any _) (fun _ _ _ h => h) ?_
  refine Fw.q (Fw.val_not rfl) rfl ?_
  refine Fw.q (Fw.val_move rfl) rfl ?_
  refine Fw.gTQ (d := 28) rfl rfl ?_
  refine Fw.q (Fw.val_move rfl) rfl ?_
  refine Fw.gTQ (d := 28) rfl rfl ?_
  refine Fw.q (Fw.val_bin rfl rfl (Fw.b_nilP Try.underlying33)) rfl ?_
  refine Fw.q (Fw.val_pickF rfl rfl) rfl ?_
  refine Fw.q (Fw.val_move rfl) rfl ?_
  refine Fw.gFQ (d := 32) rfl rfl rfl rfl ?_
  refine Fw.gFQ (d := 32) rfl rfl rfl rfl ?_
  refine Fw.q (Fw.val_pickT rfl rfl) rfl ?_
  refine Fw.q (Fw.val_move rfl) rfl ?_
  refine Fw.gFQ (d := 36) rfl rfl rfl rfl ?_
  refine Fw.gFQ (d := 36) rfl rfl rfl rfl ?_
  refine Fw.gFQ (d := 36) rfl rfl rfl rfl ?_
  refine Fw.gFQ (d := 36) rfl rfl rfl rfl ?_
  refine Fw.gFQ (d := 36) rfl rfl rfl rfl ?_
  refine Fw.gUQ (d := 41) rfl rfl rfl ?_
  refine Fw.gUQ (d := 41) rfl rfl rfl ?_
  refine Fw.gUQ (d := 41) rfl rfl rfl ?_
  refine Fw.gUQ (d := 41) rfl rfl rfl ?_
  refine Fw.gUQ (d := 41) rfl rfl rfl ?_
  refine Fw.gUQ (d := 41) rfl rfl rfl ?_
  refine Fw.gFQ (d := 36) rfl rfl rfl rfl ?_
  refine Fw.q (Fw.val_pickT rfl rfl) rfl ?_
  refine Fw.nilQ ?_
  intro w5 hb
  replace Hx := Hx.low hb
  replace Hy := Hy.low hb
  replace HB := HB.trans (hb.mono HB.size)
  clear hb
  refine hK5 _ _ (Fw.FC.sub (f' := [(49, _), (9, _), (8, _), (7, _), (5, _)]) (.cons rfl (.cons rfl (.cons rfl (.cons rfl (.cons rfl .nil))))) ?_)
  refine Fw.condT rfl ?_
  refine Fw.seq fun _ hK6 => ?_
  refine Fw.region ?_
  refine Fw.call cf9 rfl rfl (awake29_any _) ?_
  rintro e_ w6 ⟨rfl, hb⟩
  refine ⟨_, rfl, ?_⟩
  replace Hx := Hx.low hb
  replace Hy := Hy.low hb
  replace HB := HB.trans (hb.mono HB.size)
  clear hb
  refine Fw.s (Fw.val_assign rfl) rfl ?_
  refine Fw.nil ?_
  refine hK6 _ _ ?_
  refine Fw.ret ?_
  refine Fw.X_ret ?_
  refine Fw.ret_ [.tmp 6] [_] Try.results5 (.tmp rfl .nil) ?_
  exact ⟨rfl, HB⟩

end Go.Proofs.Ytmacmlgjejdhpaa
