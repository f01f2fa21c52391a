/- Layer 29: what the laws share. -/
import Derived.Test.YtmacmlgjejdhpaaAf
namespace Go.Proofs.Ytmacmlgjejdhpaa
set_option linter.unusedSimpArgs false
set_option linter.unusedVariables false
open Go.RowKit

theorem Chg.wk {S S' : Nat → Prop} {w w' : World} (h : Chg S w w') (hs : ∀ k, S k → S' k) : Chg S' w w' := (Chg.refl S' w).trans h (fun k _ e => hs k e)
theorem RaAt.over {ts : List TypeId} {S : Nat → Prop} {w w' : World} {B q N : Nat} {E : List Rg.Ed} {u : Int} {Ae : Option Addr} {ce : Nat} {mn : Int} {mg : Or.F} (h : RaAt w B q N E u Ae ce mn mg) (hc : Chg S w w') (hk : Fw.Kp ts w w') (h1 : ¬ S q) (h2 : ∀ k, S k → B ≤ k) (t3 : ts.contains 3 = false) : RaAt w' B q N E u Ae ce mn mg := by
  have hl := h.lt.2.2
  obtain ⟨h0, s, v, i, d, pp, A, c, sp, l, r, k1, k2, k3, k4, k5⟩ := h
  exact ⟨h0, s, v, i, d, pp, A, c, sp, l, r, k1.chg hc h1, k2.kp hk t3, k3, k4.below (hc.below h2 hl), k5⟩
namespace Ag
noncomputable def runs (N : Nat) (E : List Rg.Ed) (u : Int) (a : Ag) (l : List Act) : Ag := l.foldl (fun a x => act N E u a x) a
theorem runs_snoc (N : Nat) (E : List Rg.Ed) (u : Int) (a : Ag) (l : List Act) (k : Nat) (hk : k < l.length) : runs N E u a (l.take (k + 1)) = act N E u (runs N E u a (l.take k)) l[k] := by
  unfold runs
  rw [List.take_succ_eq_append_getElem hk, List.foldl_append]; rfl
theorem Good.runs {N : Nat} {E : List Rg.Ed} {u : Int} {a : Ag} (h : Good N E u a) (l : List Act) : Good N E u (runs N E u a l) := by
  unfold Ag.runs
  induction l generalizing a with
  | nil => exact h
  | cons x l ih => exact ih (h.act x)
theorem SI.runs {N : Nat} {E : List Rg.Ed} {u : Int} {a : Ag} (h : SI a) (l : List Act) : SI (runs N E u a l) := by
  unfold Ag.runs
  induction l generalizing a with
  | nil => exact h
  | cons x l ih => exact ih (h.act x)
def Act.cells (x : Act) : List Value := [.int .i64 x.k, .int .i64 x.t, .int .i64 x.g, .int .i64 x.o.u, .int .i64 x.o.e, .int .i64 x.o.k, .int .i64 x.o.i, .int .i64 x.o.n]
theorem Act.len (x : Act) : x.cells.length = 8 := rfl
end Ag
/-- what the arguments of a unit must be -/
def MadeOk (u v N : Int) (R : List Rg.Re) : Prop := Rg.Right N R ∧ (0 ≤ u ∧ u ≤ 255) ∧ (0 ≤ v ∧ v < N)
set_option maxRecDepth 100000 in
set_option maxHeartbeats 1000000 in
theorem net29No_any (w : World) (N : Int) (R : List Rg.Re) (Ae : Option Addr) (ce : Nat) (hR : Rd w Ae (R.flatMap Rg.Re.cells)) (hno : ¬ Rg.Right N R) : Calls Try.prog 8 #[.agg #[.int .i64 N, .slice Ae R.length ce]] w fun e_ w' => e_ = .returned (.pointer none) ∧ Below w.heap.size w w' := by
  refine Fw.calls Try.func8 rfl Try.ntmps8 rfl ?_
  have HB := Below.refl (w.heap.size) w
  refine Fw.seq fun _ hK1 => ?_
  refine Fw.region ?_
  refine Fw.box rfl rfl ?_
  intro w1 gn egn Hn hb
  have lgn : w.heap.size ≤ gn := by have := HB.size; omega
  replace HB := HB.trans (hb.mono HB.size)
  clear hb
  clear egn
  refine Fw.s (Fw.val_assign rfl) rfl ?_
  refine Fw.nil ?_
  refine hK1 _ _ ?_
  refine Fw.seq fun _ hK2 => ?_
  refine Fw.seq fun _ hK3 => ?_
  refine Fw.region ?_
  refine Fw.ldA ag24 rfl (Fw.rdBlk Hn) rfl rfl ?_
  refine Fw.call cf24 rfl rfl (right_any _ N R Ae ce (hR.low HB)) ?_
  rintro e_ w2 ⟨rfl, hb⟩
  refine ⟨_, rfl, ?_⟩
  replace Hn := Hn.low hb
  replace HB := HB.trans (hb.mono HB.size)
  clear hb
  rw [decide_eq_false hno]
  refine Fw.s (Fw.val_not rfl) rfl ?_
  refine Fw.nil ?_
  refine hK3 _ _ ?_
  refine Fw.condT rfl ?_
  refine Fw.seq fun _ hK4 => ?_
  refine Fw.region ?_
  refine Fw.s (Fw.val_assign rfl) rfl ?_
  refine Fw.nil ?_
  refine hK4 _ _ ?_
  refine Fw.ret ?_
  refine Fw.X_ret ?_
  refine Fw.ret_ [.tmp 2] [_] Try.results8 (.tmp rfl .nil) ?_
  exact ⟨rfl, HB⟩

set_option maxRecDepth 100000 in
set_option maxHeartbeats 1000000 in
theorem net29_any (w : World) (N : Nat) (E : List Rg.Ed) (Ae : Option Addr) (ce : Nat) (hE : Rd w Ae (E.flatMap Rg.Ed.cells)) (hn : Rg.Net N E) : Calls Try.prog 8 #[.agg #[.int .i64 (N : Int), .slice Ae E.length ce]] w fun e_ w' => ∃ g', e_ = .returned (.pointer (some ⟨g', 0, none⟩)) ∧ Rg.GT w' g' N E ∧ Below w.heap.size w w' := by
  have hn1 := hn.n
  have hn2 := hn.e
  refine Fw.calls Try.func8 rfl Try.ntmps8 rfl ?_
  have HB := Below.refl (w.heap.size) w
  refine Fw.seq fun _ hK1 => ?_
  refine Fw.region ?_
  refine Fw.box rfl rfl ?_
  intro w1 gn egn Hn hb
  have lgn : w.heap.size ≤ gn := by have := HB.size; omega
  replace HB := HB.trans (hb.mono HB.size)
  clear hb
  clear egn
  refine Fw.s (Fw.val_assign rfl) rfl ?_
  refine Fw.nil ?_
  refine hK1 _ _ ?_
  refine Fw.seq fun _ hK2 => ?_
  refine Fw.seq fun _ hK3 => ?_
  refine Fw.region ?_
  refine Fw.ldA ag24 rfl (Fw.rdBlk Hn) rfl rfl ?_
  refine Fw.call cf24 rfl rfl ((show Calls _ _ #[.agg #[.int .i64 (N : Int), .slice Ae E.length ce]] _ _ from by have := right_any _ N (E.map Rg.Ed.re) Ae ce (by rw [Rg.re_cells]; exact hE.low HB); rw [List.length_map, decide_eq_true hn.right] at this; exact this)) ?_
  rintro e_ w2 ⟨rfl, hb⟩
  refine ⟨_, rfl, ?_⟩
  replace Hn := Hn.low hb
  replace HB := HB.trans (hb.mono HB.size)
  clear hb
  refine Fw.s (Fw.val_not rfl) rfl ?_
  refine Fw.nil ?_
  refine hK3 _ _ ?_
  refine Fw.condF rfl ?_
  refine Fw.skip ?_
  refine hK2 _ _ ?_
  refine Fw.seq fun _ hK4 => ?_
  refine Fw.regionH (by kernel_rfl) ?_
  have R_Hn := Hn
  have R_HB := HB
  intro w3 hb
  have HS := hb
  replace Hn := Hn.low hb
  replace HB := HB.trans (hb.mono HB.size)
  clear hb
  refine Fw.hTk 0 rfl rfl (Fw.yV (Fw.val_fieldAddr fl24_0 rfl rfl)) rfl ?_
  refine Fw.hTk 1 rfl rfl (Fw.yV (Fw.hLd sc3 rfl (R_Hn.cell 0))) rfl ?_
  refine Fw.hTk 3 rfl rfl (Fw.yV (Fw.val_fieldAddr fl24_1 rfl rfl)) rfl ?_
  refine Fw.hTk 4 rfl rfl (Fw.yV (Fw.hLd sc22 rfl (R_Hn.cell 1))) rfl ?_
  refine Fw.hAll1 2 (by kernel_rfl) ?_
  refine Fw.hOp 2 rfl ?_
  refine Fw.buildSlice [] sl22 rfl rfl (by exact Fw.allSz rfl) (by decide) rfl ?_
  intro w4 gS11 egS11 HS11 hb
  have rgS11 : w2.heap.size ≤ gS11 := by have := HS.size; omega
  have n_gn_gS11 : gn < gS11 := by have := Hn.lt; omega
  have lgS11 : w.heap.size ≤ gS11 := by have := HB.size; omega
  replace Hn := Hn.low hb
  replace HS := HS.trans (hb.mono HS.size)
  replace HB := HB.trans (hb.mono HB.size)
  clear hb
  clear egS11
  refine Fw.hNext HS ?_
  refine Fw.hAll1 5 (by kernel_rfl) ?_
  refine Fw.hOp 5 rfl ?_
  refine Fw.append (base := w2.heap.size) (E.length) (E.flatMap Rg.Ed.cells) sl22 rfl rfl (Fw.own_blk HS11 rgS11 (by unfold maxLen; omega) rfl) (hE.low HB) (Rg.flat3 Rg.Ed.len E) (Rg.one_eds E) (by unfold maxLen; omega) HS.size (Nat.zero_add _) rfl rfl ?_
  intro A14 c14 w5 N_ hbb hc hrow
  have hAs : A14.map (·.block) = some gS11 ∨ A14.map (·.block) = some w4.heap.size := hrow
  replace Hn := Hn.chg hc (fun e => by have e : some gn = some gS11 := e; injection e with e; omega)
  replace HS := HS.trans hbb
  replace HB := HB.trans (hbb.mono R_HB.size)
  clear hbb hc hrow HS11
  refine Fw.hNext HS ?_
  refine Fw.hAll1 6 (by kernel_rfl) ?_
  refine Fw.hOp 6 rfl ?_
  refine Fw.call cf25 rfl rfl (new_any _ N E A14 c14 (Rd.of_own N_) hn.ok (by omega) (by omega) hn.m (Rg.some_of hAs)) ?_
  rintro e_ w6 ⟨g2, rfl, hG2, hg2, hb⟩
  refine ⟨_, rfl, ?_⟩
  replace Hn := Hn.low hb
  replace HS := HS.trans (hb.mono HS.size)
  replace HB := HB.trans (hb.mono HB.size)
  clear hb
  refine Fw.hNext HS ?_
  refine Fw.hTk 7 rfl rfl (Fw.yV (Fw.val_move rfl)) rfl ?_
  refine Fw.hTk 8 rfl rfl (Fw.yV (Fw.val_extract rfl rfl)) rfl ?_
  refine Fw.hTk 9 rfl rfl (Fw.yV (Fw.val_extract rfl rfl)) rfl ?_
  refine Fw.hTk 10 rfl rfl (Fw.yV (Fw.val_assign rfl)) rfl ?_
  refine Fw.hTk 11 rfl rfl (Fw.yV (Fw.val_assign rfl)) rfl ?_
  refine Fw.hDone (by kernel_rfl) ?_
  refine hK4 _ _ (Fw.FC.sub (f' := [(4, _), (3, _)]) (.cons rfl (.cons rfl .nil)) ?_)
  refine Fw.seq fun _ hK5 => ?_
  refine Fw.seq fun _ hK6 => ?_
  refine Fw.region ?_
  refine Fw.s (Fw.val_move rfl) rfl ?_
  refine Fw.s (Fw.Val.F (Fw.val_bin rfl rfl Fw.b_neq) (by decide)) rfl ?_
  refine Fw.nil ?_
  refine hK6 _ _ ?_
  refine Fw.condF rfl ?_
  refine Fw.skip ?_
  refine hK5 _ _ ?_
  refine Fw.seq fun _ hK7 => ?_
  refine Fw.region ?_
  refine Fw.s (Fw.val_move rfl) rfl ?_
  refine Fw.s (Fw.val_assign rfl) rfl ?_
  refine Fw.nil ?_
  refine hK7 _ _ ?_
  refine Fw.ret ?_
  refine Fw.ret_ [.tmp 2] [_] Try.results8 (.tmp rfl .nil) ?_
  exact ⟨g2, rfl, hG2, HB⟩

set_option maxRecDepth 100000 in
set_option maxHeartbeats 1000000 in
theorem both_yes (w : World) (N : Nat) (E : List Rg.Ed) (Ae : Option Addr) (ce : Nat) (hE : Rd w Ae (E.flatMap Rg.Ed.cells)) (hn : Rg.Net N E) (u v : Int) (hu : 0 ≤ u ∧ u ≤ 255) (hv : 0 ≤ v ∧ v < N) : Calls Try.prog 21 #[.agg #[.int .i64 u, .int .i64 v, .int .i64 (N : Int), .slice Ae E.length ce]] w fun e_ w' => ∃ p pf pg q, e_ = .returned (.tuple #[.pointer (some ⟨p, 0, none⟩), .pointer (some ⟨q, 0, none⟩), .bool true]) ∧ w.heap.size ≤ p ∧ w.heap.size ≤ pf ∧ AgAt w' p pf pg N E u (Ag.new u v.toNat) ∧ RaAt w' w.heap.size q N E u Ae ce 0 (Or.new u) ∧ Below w.heap.size w w' := by
  have hv2 : ((v.toNat : Nat) : Int) = v := Int.toNat_of_nonneg hv.1
  refine Fw.calls Try.func21 rfl Try.ntmps21 rfl ?_
  have HB := Below.refl (w.heap.size) w
  refine Fw.seq fun _ hK1 => ?_
  refine Fw.region ?_
  refine Fw.box rfl rfl ?_
  intro w1 gx egx Hx hb
  have lgx : w.heap.size ≤ gx := by have := HB.size; omega
  replace HB := HB.trans (hb.mono HB.size)
  clear hb
  clear egx
  refine Fw.s (Fw.val_assign rfl) rfl ?_
  refine Fw.s (Fw.val_assign rfl) rfl ?_
  refine Fw.s (Fw.val_assign rfl) rfl ?_
  refine Fw.nil ?_
  refine hK1 _ _ ?_
  refine Fw.seq fun _ hK2 => ?_
  refine Fw.region ?_
  refine Fw.s (Fw.val_fieldAddr fl26_2 rfl rfl) rfl ?_
  refine Fw.ldA ag24 rfl (Fw.rdPart (Fw.rdBlk Hx) 2 2) rfl rfl ?_
  refine Fw.call cf8 rfl rfl (net29_any _ N E Ae ce (hE.low HB) hn) ?_
  rintro e_ w2 ⟨pg, rfl, HG, hb⟩
  refine ⟨_, rfl, ?_⟩
  replace Hx := Hx.low hb
  replace HB := HB.trans (hb.mono HB.size)
  clear hb
  refine Fw.s (Fw.val_assign rfl) rfl ?_
  refine Fw.nil ?_
  refine hK2 _ _ (Fw.FC.sub (f' := [(5, _), (1, _)]) (.cons rfl (.cons rfl .nil)) ?_)
  refine Fw.seq fun _ hK3 => ?_
  refine Fw.region ?_
  refine Fw.s (Fw.val_fieldAddr fl26_0 rfl rfl) rfl ?_
  refine Fw.ld sc3 rfl (Hx.cell 0) rfl ?_
  refine Fw.s (Fw.val_fieldAddr fl26_1 rfl rfl) rfl ?_
  refine Fw.ld sc3 rfl (Hx.cell 1) rfl ?_
  refine Fw.s (Fw.val_fieldAddr fl26_2 rfl rfl) rfl ?_
  refine Fw.ldA ag24 rfl (Fw.rdPart (Fw.rdBlk Hx) 2 2) rfl rfl ?_
  refine Fw.call cf10 rfl rfl (rNew_any _ u v N Ae E.length ce) ?_
  rintro e_ w3 ⟨q, rfl, hq, HQ, hb⟩
  refine ⟨_, rfl, ?_⟩
  have hz1 := HB.size
  replace Hx := Hx.low hb
  replace HG := HG.low hb
  replace HB := HB.trans (hb.mono HB.size)
  clear hb
  rw [decide_eq_true (show ((0 ≤ u ∧ u ≤ 255) ∧ (0 ≤ v ∧ v < (N : Int))) from ⟨hu, hv⟩)]
  refine Fw.s (Fw.val_move rfl) rfl ?_
  refine Fw.s (Fw.val_extract rfl rfl) rfl ?_
  refine Fw.s (Fw.val_extract rfl rfl) rfl ?_
  refine Fw.s (Fw.val_assign rfl) rfl ?_
  refine Fw.s (Fw.val_assign rfl) rfl ?_
  refine Fw.nil ?_
  refine hK3 _ _ (Fw.FC.sub (f' := [(7, _), (6, _), (5, _), (1, _)]) (.cons rfl (.cons rfl (.cons rfl (.cons rfl .nil)))) ?_)
  refine Fw.seq fun _ hK4 => ?_
  refine Fw.seq fun _ hK5 => ?_
  refine Fw.region ?_
  refine Fw.s (Fw.val_move rfl) rfl ?_
  refine Fw.s (Fw.val_bin rfl rfl (Fw.b_nilP Try.underlying27)) rfl ?_
  refine Fw.s (Fw.val_move rfl) rfl ?_
  refine Fw.gT (d := 25) rfl rfl ?_
  refine Fw.s (Fw.val_move rfl) rfl ?_
  refine Fw.gT (d := 25) rfl rfl ?_
  refine Fw.s (Fw.val_not rfl) rfl ?_
  refine Fw.s (Fw.val_pickF rfl rfl) rfl ?_
  refine Fw.nil ?_
  refine hK5 _ _ ?_
  refine Fw.condF rfl ?_
  refine Fw.skip ?_
  refine hK4 _ _ (Fw.FC.sub (f' := [(6, _), (5, _), (1, _)]) (.cons rfl (.cons rfl (.cons rfl .nil))) ?_)
  refine Fw.seq fun _ hK6 => ?_
  refine Fw.region ?_
  refine Fw.s (Fw.val_fieldAddr fl26_0 rfl rfl) rfl ?_
  refine Fw.ld sc3 rfl (Hx.cell 0) rfl ?_
  refine Fw.s (Fw.val_fieldAddr fl26_1 rfl rfl) rfl ?_
  refine Fw.ld sc3 rfl (Hx.cell 1) rfl ?_
  refine Fw.s (Fw.val_move rfl) rfl ?_
  refine Fw.call cf11 rfl rfl (newAgent_any _ pg N E HG u v hu hv) ?_
  rintro e_ w4 ⟨p, pf, rfl, hp, hpf, HAg, hb⟩
  refine ⟨_, rfl, ?_⟩
  have hz2 := HB.size
  replace Hx := Hx.low hb
  replace HG := HG.low hb
  replace HQ := HQ.low hb
  replace HB := HB.trans (hb.mono HB.size)
  clear hb
  refine Fw.s (Fw.val_move rfl) rfl ?_
  refine Fw.s (Fw.val_extract rfl rfl) rfl ?_
  refine Fw.s (Fw.val_extract rfl rfl) rfl ?_
  refine Fw.s (Fw.val_assign rfl) rfl ?_
  refine Fw.s (Fw.val_assign rfl) rfl ?_
  refine Fw.nil ?_
  refine hK6 _ _ (Fw.FC.sub (f' := [(9, _), (8, _), (6, _)]) (.cons rfl (.cons rfl (.cons rfl .nil))) ?_)
  refine Fw.seq fun _ hK7 => ?_
  refine Fw.seq fun _ hK8 => ?_
  refine Fw.region ?_
  refine Fw.s (Fw.val_move rfl) rfl ?_
  refine Fw.s (Fw.Val.F (Fw.val_bin rfl rfl Fw.b_neq) (by decide)) rfl ?_
  refine Fw.nil ?_
  refine hK8 _ _ ?_
  refine Fw.condF rfl ?_
  refine Fw.skip ?_
  refine hK7 _ _ ?_
  refine Fw.seq fun _ hK9 => ?_
  refine Fw.region ?_
  refine Fw.s (Fw.val_move rfl) rfl ?_
  refine Fw.s (Fw.val_move rfl) rfl ?_
  refine Fw.s (Fw.val_assign rfl) rfl ?_
  refine Fw.s (Fw.val_assign rfl) rfl ?_
  refine Fw.s (Fw.val_assign rfl) rfl ?_
  refine Fw.nil ?_
  refine hK9 _ _ (Fw.FC.sub (f' := [(4, _), (3, _), (2, _)]) (.cons rfl (.cons rfl (.cons rfl .nil))) ?_)
  refine Fw.ret ?_
  refine Fw.ret_ [.tmp 2, .tmp 3, .tmp 4] [_, _, _] Try.results21 (.tmp rfl (.tmp rfl (.tmp rfl .nil))) ?_
  exact ⟨p, pf, pg, q, rfl, by omega, by omega, HAg, RaAt.new (v := v.toNat) (by omega) ⟨HB.size, w, Nat.le_refl _, hE, HB⟩ hn (by omega) (by rw [hv2]; exact HQ), HB⟩

set_option maxRecDepth 100000 in
set_option maxHeartbeats 1000000 in
theorem both_no (w : World) (N : Int) (R : List Rg.Re) (Ae : Option Addr) (ce : Nat) (hR : Rd w Ae (R.flatMap Rg.Re.cells)) (u v : Int) (hno : ¬ MadeOk u v N R) : Calls Try.prog 21 #[.agg #[.int .i64 u, .int .i64 v, .int .i64 N, .slice Ae R.length ce]] w fun e_ w' => ∃ q, e_ = .returned (.tuple #[.pointer none, .pointer (some ⟨q, 0, none⟩), .bool false]) ∧ Below w.heap.size w w' := by
  by_cases hr : Rg.Right N R
  obtain ⟨M, E, rfl, rfl, hn⟩ := Rg.right_net hr
  rw [Rg.re_cells] at hR
  have hno2 : ¬ ((0 ≤ u ∧ u ≤ 255) ∧ (0 ≤ v ∧ v < (M : Int))) := fun k => hno ⟨hr, k.1, k.2⟩
  rw [List.length_map]
  refine Fw.calls Try.func21 rfl Try.ntmps21 rfl ?_
  have HB := Below.refl (w.heap.size) w
  refine Fw.seq fun _ hK1 => ?_
  refine Fw.region ?_
  refine Fw.box rfl rfl ?_
  intro w1 gx egx Hx hb
  have lgx : w.heap.size ≤ gx := by have := HB.size; omega
  replace HB := HB.trans (hb.mono HB.size)
  clear hb
  clear egx
  refine Fw.s (Fw.val_assign rfl) rfl ?_
  refine Fw.s (Fw.val_assign rfl) rfl ?_
  refine Fw.s (Fw.val_assign rfl) rfl ?_
  refine Fw.nil ?_
  refine hK1 _ _ ?_
  refine Fw.seq fun _ hK2 => ?_
  refine Fw.region ?_
  refine Fw.s (Fw.val_fieldAddr fl26_2 rfl rfl) rfl ?_
  refine Fw.ldA ag24 rfl (Fw.rdPart (Fw.rdBlk Hx) 2 2) rfl rfl ?_
  refine Fw.call cf8 rfl rfl (net29_any _ M E Ae ce (hR.low HB) hn) ?_
  rintro e_ w2 ⟨pg, rfl, -, hb⟩
  refine ⟨_, rfl, ?_⟩
  replace Hx := Hx.low hb
  replace HB := HB.trans (hb.mono HB.size)
  clear hb
  refine Fw.s (Fw.val_assign rfl) rfl ?_
  refine Fw.nil ?_
  refine hK2 _ _ (Fw.FC.sub (f' := [(5, _), (1, _)]) (.cons rfl (.cons rfl .nil)) ?_)
  refine Fw.seq fun _ hK3 => ?_
  refine Fw.region ?_
  refine Fw.s (Fw.val_fieldAddr fl26_0 rfl rfl) rfl ?_
  refine Fw.ld sc3 rfl (Hx.cell 0) rfl ?_
  refine Fw.s (Fw.val_fieldAddr fl26_1 rfl rfl) rfl ?_
  refine Fw.ld sc3 rfl (Hx.cell 1) rfl ?_
  refine Fw.s (Fw.val_fieldAddr fl26_2 rfl rfl) rfl ?_
  refine Fw.ldA ag24 rfl (Fw.rdPart (Fw.rdBlk Hx) 2 2) rfl rfl ?_
  refine Fw.call cf10 rfl rfl (rNew_any _ u v M Ae E.length ce) ?_
  rintro e_ w3 ⟨q, rfl, hq, -, hb⟩
  refine ⟨_, rfl, ?_⟩
  replace Hx := Hx.low hb
  replace HB := HB.trans (hb.mono HB.size)
  clear hb
  rw [decide_eq_false hno2]
  refine Fw.s (Fw.val_move rfl) rfl ?_
  refine Fw.s (Fw.val_extract rfl rfl) rfl ?_
  refine Fw.s (Fw.val_extract rfl rfl) rfl ?_
  refine Fw.s (Fw.val_assign rfl) rfl ?_
  refine Fw.s (Fw.val_assign rfl) rfl ?_
  refine Fw.nil ?_
  refine hK3 _ _ (Fw.FC.sub (f' := [(7, _), (6, _), (5, _), (1, _)]) (.cons rfl (.cons rfl (.cons rfl (.cons rfl .nil)))) ?_)
  refine Fw.seq fun _ hK4 => ?_
  refine Fw.seq fun _ hK5 => ?_
  refine Fw.region ?_
  refine Fw.s (Fw.val_move rfl) rfl ?_
  refine Fw.s (Fw.val_bin rfl rfl (Fw.b_nilP Try.underlying27)) rfl ?_
  refine Fw.s (Fw.val_move rfl) rfl ?_
  refine Fw.gT (d := 25) rfl rfl ?_
  refine Fw.s (Fw.val_move rfl) rfl ?_
  refine Fw.gT (d := 25) rfl rfl ?_
  refine Fw.s (Fw.val_not rfl) rfl ?_
  refine Fw.s (Fw.val_pickF rfl rfl) rfl ?_
  refine Fw.nil ?_
  refine hK5 _ _ ?_
  refine Fw.condT rfl ?_
  refine Fw.seq fun _ hK6 => ?_
  refine Fw.region ?_
  refine Fw.s (Fw.val_move rfl) rfl ?_
  refine Fw.s (Fw.val_assign rfl) rfl ?_
  refine Fw.s (Fw.val_assign rfl) rfl ?_
  refine Fw.s (Fw.val_assign rfl) rfl ?_
  refine Fw.nil ?_
  refine hK6 _ _ (Fw.FC.sub (f' := [(4, _), (3, _), (2, _)]) (.cons rfl (.cons rfl (.cons rfl .nil))) ?_)
  refine Fw.ret ?_
  refine Fw.X_ret ?_
  refine Fw.ret_ [.tmp 2, .tmp 3, .tmp 4] [_, _, _] Try.results21 (.tmp rfl (.tmp rfl (.tmp rfl .nil))) ?_
  exact ⟨q, rfl, HB⟩
  refine Fw.calls Try.func21 rfl Try.ntmps21 rfl ?_
  have HB := Below.refl (w.heap.size) w
  refine Fw.seq fun _ hK1 => ?_
  refine Fw.region ?_
  refine Fw.box rfl rfl ?_
  intro w1 gx egx Hx hb
  have lgx : w.heap.size ≤ gx := by have := HB.size; omega
  replace HB := HB.trans (hb.mono HB.size)
  clear hb
  clear egx
  refine Fw.s (Fw.val_assign rfl) rfl ?_
  refine Fw.s (Fw.val_assign rfl) rfl ?_
  refine Fw.s (Fw.val_assign rfl) rfl ?_
  refine Fw.nil ?_
  refine hK1 _ _ ?_
  refine Fw.seq fun _ hK2 => ?_
  refine Fw.region ?_
  refine Fw.s (Fw.val_fieldAddr fl26_2 rfl rfl) rfl ?_
  refine Fw.ldA ag24 rfl (Fw.rdPart (Fw.rdBlk Hx) 2 2) rfl rfl ?_
  refine Fw.call cf8 rfl rfl (net29No_any _ N R Ae ce (hR.low HB) hr) ?_
  rintro e_ w2 ⟨rfl, hb⟩
  refine ⟨_, rfl, ?_⟩
  replace Hx := Hx.low hb
  replace HB := HB.trans (hb.mono HB.size)
  clear hb
  refine Fw.s (Fw.val_assign rfl) rfl ?_
  refine Fw.nil ?_
  refine hK2 _ _ (Fw.FC.sub (f' := [(5, _), (1, _)]) (.cons rfl (.cons rfl .nil)) ?_)
  refine Fw.seq fun _ hK3 => ?_
  refine Fw.region ?_
  refine Fw.s (Fw.val_fieldAddr fl26_0 rfl rfl) rfl ?_
  refine Fw.ld sc3 rfl (Hx.cell 0) rfl ?_
  refine Fw.s (Fw.val_fieldAddr fl26_1 rfl rfl) rfl ?_
  refine Fw.ld sc3 rfl (Hx.cell 1) rfl ?_
  refine Fw.s (Fw.val_fieldAddr fl26_2 rfl rfl) rfl ?_
  refine Fw.ldA ag24 rfl (Fw.rdPart (Fw.rdBlk Hx) 2 2) rfl rfl ?_
  refine Fw.call cf10 rfl rfl (rNew_any _ u v N Ae R.length ce) ?_
  rintro e_ w3 ⟨q, rfl, hq, -, hb⟩
  refine ⟨_, rfl, ?_⟩
  replace Hx := Hx.low hb
  replace HB := HB.trans (hb.mono HB.size)
  clear hb
  refine Fw.s (Fw.val_move rfl) rfl ?_
  refine Fw.s (Fw.val_extract rfl rfl) rfl ?_
  refine Fw.s (Fw.val_extract rfl rfl) rfl ?_
  refine Fw.s (Fw.val_assign rfl) rfl ?_
  refine Fw.s (Fw.val_assign rfl) rfl ?_
  refine Fw.nil ?_
  refine hK3 _ _ (Fw.FC.sub (f' := [(7, _), (6, _), (5, _), (1, _)]) (.cons rfl (.cons rfl (.cons rfl (.cons rfl .nil)))) ?_)
  refine Fw.seq fun _ hK4 => ?_
  refine Fw.seq fun _ hK5 => ?_
  refine Fw.region ?_
  refine Fw.s (Fw.val_move rfl) rfl ?_
  refine Fw.s (Fw.val_bin rfl rfl (Fw.b_nilP Try.underlying27)) rfl ?_
  refine Fw.s (Fw.val_move rfl) rfl ?_
  refine Fw.gF (d := 25) rfl rfl rfl rfl ?_
  refine Fw.gF (d := 25) rfl rfl rfl rfl ?_
  refine Fw.s (Fw.val_pickT rfl rfl) rfl ?_
  refine Fw.nil ?_
  refine hK5 _ _ ?_
  refine Fw.condT rfl ?_
  refine Fw.seq fun _ hK6 => ?_
  refine Fw.region ?_
  refine Fw.s (Fw.val_move rfl) rfl ?_
  refine Fw.s (Fw.val_assign rfl) rfl ?_
  refine Fw.s (Fw.val_assign rfl) rfl ?_
  refine Fw.s (Fw.val_assign rfl) rfl ?_
  refine Fw.nil ?_
  refine hK6 _ _ (Fw.FC.sub (f' := [(4, _), (3, _), (2, _)]) (.cons rfl (.cons rfl (.cons rfl .nil))) ?_)
  refine Fw.ret ?_
  refine Fw.X_ret ?_
  refine Fw.ret_ [.tmp 2, .tmp 3, .tmp 4] [_, _, _] Try.results21 (.tmp rfl (.tmp rfl (.tmp rfl .nil))) ?_
  exact ⟨q, rfl, HB⟩

set_option maxRecDepth 100000 in
set_option maxHeartbeats 4000000 in
theorem do_any (w : World) (p pf pg N : Nat) (E : List Rg.Ed) (u : Int) (a : Ag) (B q : Nat) (Ae : Option Addr) (ce : Nat) (mn : Int) (mg : Or.F) (x : Ag.Act) (hA : AgAt w p pf pg N E u a) (hg : Ag.Good N E u a) (hR : RaAt w B q N E u Ae ce mn mg) (hBp : B ≤ p) (hBf : B ≤ pf) : Calls Try.prog 22 #[.pointer (some ⟨p, 0, none⟩), .pointer (some ⟨q, 0, none⟩), .agg x.cells.toArray] w fun e_ w' => ∃ b, e_ = .returned (.bool b) ∧ AgAt w' p pf pg N E u (Ag.act N E u a x) ∧ RaAt w' B q N E u Ae ce (Ag.lk N u (mn, mg) x).1 (Ag.lk N u (mn, mg) x).2 ∧ Chg (fun k => (k = p ∨ k = pf) ∨ k = q) w w' := by
  have HAg := hA
  have HRa := hR
  clear hA hR
  have hl1 := HAg.lt
  have hl2 := HRa.lt
  have hBw := hl2.2.2
  have HCC := Chg.refl (fun k => (k = p ∨ k = pf) ∨ k = q) w
  refine Fw.calls Try.func22 rfl Try.ntmps22 rfl ?_
  have HB := Below.refl (B) w
  refine Fw.seq fun _ hK1 => ?_
  refine Fw.region ?_
  refine Fw.box rfl rfl ?_
  intro w1 gx egx Hx hb
  have na_HAg_gx : p < gx ∧ pf < gx := by have := HAg.lt; omega
  have na_HRa_gx : q < gx := by have := HRa.lt; omega
  have lw_gx : w.heap.size ≤ gx := by have := HCC.size; omega
  have lgx : B ≤ gx := by have := (Nat.le_trans hBw HB.size); omega
  replace HAg := HAg.low hb
  replace HRa := HRa.low hb
  replace HCC := HCC.trans (Chg.of_below hb _) (fun _ _ h => h)
  replace HB := HB.trans (hb.mono (Nat.le_trans hBw HB.size))
  clear hb
  clear egx
  refine Fw.s (Fw.val_assign rfl) rfl ?_
  refine Fw.nil ?_
  refine hK1 _ _ ?_
  refine Fw.seq fun _ hK2 => ?_
  refine Fw.seq fun _ hK3 => ?_
  refine Fw.region ?_
  refine Fw.s (Fw.val_fieldAddr fl65_0 rfl rfl) rfl ?_
  refine Fw.ld sc3 rfl (Hx.cell 0) rfl ?_
  refine Fw.nil ?_
  refine hK3 _ _ ?_
  refine Fw.block ?_
  refine Fw.seq fun _ hK4 => ?_
  refine Fw.region ?_
  refine Fw.s2 (Fw.val_bin rfl rfl Fw.b_eql) rfl ?_ ?_
  rintro k1
  refine Fw.s (Fw.val_assign rfl) rfl ?_
  refine Fw.nil ?_
  refine hK4 _ _ ?_
  refine Fw.condT rfl ?_
  refine Fw.seq fun _ hK6 => ?_
  refine Fw.region ?_
  refine Fw.s (Fw.val_move rfl) rfl ?_
  refine Fw.s (Fw.val_fieldAddr fl65_3 rfl rfl) rfl ?_
  refine Fw.ldA ag43 rfl (Fw.rdPart (Fw.rdBlk Hx) 3 5) rfl rfl ?_
  refine Fw.s (Fw.val_fieldAddr fl65_1 rfl rfl) rfl ?_
  refine Fw.ld sc2 rfl (Hx.cell 1) rfl ?_
  refine Fw.call cf19 rfl rfl (receive_any _ p pf pg N E u a HAg hg x.o x.t) ?_
  rintro e_ w2 ⟨rfl, H2, hc⟩
  refine ⟨_, rfl, ?_⟩
  have hc2 : Chg (fun k => k = p ∨ k = pf) w1 w2 := hc
  clear hc
  replace HRa := HRa.other HAg hc2 (by omega) (by omega)
  replace HCC := HCC.trans hc2 (fun _ _ e => .inl e)
  replace Hx := Hx.chg hc2 (by omega)
  replace HB := HB.trans (hc2.below (B := B) (fun k e => by omega) (Nat.le_trans hBw HB.size))
  clear hc2 HAg
  have HAg := H2
  clear H2
  refine Fw.s (Fw.val_move rfl) rfl ?_
  refine Fw.s (Fw.val_extract rfl rfl) rfl ?_
  refine Fw.s (Fw.val_extract rfl rfl) rfl ?_
  refine Fw.s (Fw.val_assign rfl) rfl ?_
  refine Fw.s (Fw.val_assign rfl) rfl ?_
  refine Fw.nil ?_
  refine hK6 _ _ (Fw.FC.sub (f' := [(8, _), (7, _), (5, _), (1, _)]) (.cons rfl (.cons rfl (.cons rfl (.cons rfl .nil)))) ?_)
  refine Fw.seq fun _ hK7 => ?_
  refine Fw.region ?_
  refine Fw.s (Fw.val_move rfl) rfl ?_
  refine Fw.s (Fw.val_fieldAddr fl65_3 rfl rfl) rfl ?_
  refine Fw.ldA ag43 rfl (Fw.rdPart (Fw.rdBlk Hx) 3 5) rfl rfl ?_
  refine Fw.s (Fw.val_fieldAddr fl65_1 rfl rfl) rfl ?_
  refine Fw.ld sc2 rfl (Hx.cell 1) rfl ?_
  refine Fw.call cf36 rfl rfl (rHear_any _ B q N E u Ae ce mn mg x.t x.o HRa) ?_
  rintro e_ w3 ⟨hb1, hk1, rfl, H2, hc⟩
  refine ⟨_, rfl, ?_⟩
  have hc2 : Chg (· = q) w2 w3 := hc
  clear hc
  replace HAg := HAg.radio HRa hc2
  replace HCC := HCC.trans hc2 (fun _ _ e => .inr e)
  replace Hx := Hx.chg hc2 (by omega)
  replace HB := HB.trans (hc2.below (B := B) (fun k e => by omega) (Nat.le_trans hBw HB.size))
  clear hc2 HRa
  have HRa := H2
  clear H2
  refine Fw.s (Fw.val_move rfl) rfl ?_
  refine Fw.s (Fw.val_extract rfl rfl) rfl ?_
  refine Fw.s (Fw.val_extract rfl rfl) rfl ?_
  refine Fw.s (Fw.val_assign rfl) rfl ?_
  refine Fw.s (Fw.val_assign rfl) rfl ?_
  refine Fw.nil ?_
  refine hK7 _ _ (Fw.FC.sub (f' := [(10, _), (9, _), (8, _), (7, _)]) (.cons rfl (.cons rfl (.cons rfl (.cons rfl .nil)))) ?_)
  refine Fw.seq fun _ hK8 => ?_
  refine Fw.region ?_
  refine Fw.s (Fw.val_move rfl) rfl ?_
  refine Fw.s (Fw.val_move rfl) rfl ?_
  refine Fw.s2 (Fw.val_bin rfl rfl (Fw.b_eqlB Try.underlying4)) rfl ?_ ?_
  rintro q1
  refine Fw.s (Fw.val_move rfl) rfl ?_
  refine Fw.gT (d := 40) rfl rfl ?_
  refine Fw.s (Fw.val_move rfl) rfl ?_
  refine Fw.gT (d := 40) rfl rfl ?_
  refine Fw.s (Fw.val_move rfl) rfl ?_
  refine Fw.gT (d := 40) rfl rfl ?_
  refine Fw.s (Fw.val_bin rfl rfl Fw.b_eql) rfl ?_
  refine Fw.s (Fw.val_pickT rfl rfl) rfl ?_
  refine Fw.s (Fw.val_assign rfl) rfl ?_
  refine Fw.nil ?_
  refine hK8 _ _ (Fw.FC.sub (f' := [(6, _)]) (.cons rfl .nil) ?_)
  refine Fw.ret ?_
  refine Fw.X_blockR ?_
  refine Fw.X_ret ?_
  refine Fw.ret_ [.tmp 6] [_] Try.results22 (.tmp rfl .nil) ?_
  have e1 : Ag.act N E u a x = Ag.recv N E u a x.o x.t := if_pos k1
  have e2 : Ag.lk N u (mn, mg) x = (if Ag.adm N u x.o = true then (max mn (Ag.cl x.t), Or.tk mg x.o) else (mn, mg)) := if_pos k1
  have e3 : (if Ag.adm N u x.o = true then (max mn (Ag.cl x.t), Or.tk mg x.o) else (mn, mg)).1 = (if Ag.adm N u x.o = true then max mn (Ag.cl x.t) else mn) := by split <;> rfl
  have e4 : (if Ag.adm N u x.o = true then (max mn (Ag.cl x.t), Or.tk mg x.o) else (mn, mg)).2 = (if Ag.adm N u x.o = true then Or.tk mg x.o else mg) := by split <;> rfl
  rw [e1, e2, e3, e4]
  exact ⟨_, rfl, HAg, HRa, HCC⟩
  rintro q1
  refine Fw.s (Fw.val_move rfl) rfl ?_
  refine Fw.gF (d := 40) rfl rfl rfl rfl ?_
  refine Fw.gF (d := 40) rfl rfl rfl rfl ?_
  refine Fw.gF (d := 40) rfl rfl rfl rfl ?_
  refine Fw.s (Fw.val_pickF rfl rfl) rfl ?_
  refine Fw.s (Fw.val_assign rfl) rfl ?_
  refine Fw.nil ?_
  refine hK8 _ _ (Fw.FC.sub (f' := [(6, _)]) (.cons rfl .nil) ?_)
  refine Fw.ret ?_
  refine Fw.X_blockR ?_
  refine Fw.X_ret ?_
  refine Fw.ret_ [.tmp 6] [_] Try.results22 (.tmp rfl .nil) ?_
  have e1 : Ag.act N E u a x = Ag.recv N E u a x.o x.t := if_pos k1
  have e2 : Ag.lk N u (mn, mg) x = (if Ag.adm N u x.o = true then (max mn (Ag.cl x.t), Or.tk mg x.o) else (mn, mg)) := if_pos k1
  have e3 : (if Ag.adm N u x.o = true then (max mn (Ag.cl x.t), Or.tk mg x.o) else (mn, mg)).1 = (if Ag.adm N u x.o = true then max mn (Ag.cl x.t) else mn) := by split <;> rfl
  have e4 : (if Ag.adm N u x.o = true then (max mn (Ag.cl x.t), Or.tk mg x.o) else (mn, mg)).2 = (if Ag.adm N u x.o = true then Or.tk mg x.o else mg) := by split <;> rfl
  rw [e1, e2, e3, e4]
  exact ⟨_, rfl, HAg, HRa, HCC⟩
  rintro k1
  refine Fw.s (Fw.val_assign rfl) rfl ?_
  refine Fw.nil ?_
  refine hK4 _ _ ?_
  refine Fw.condF rfl ?_
  refine Fw.seq fun _ hK10 => ?_
  refine Fw.region ?_
  refine Fw.s2 (Fw.val_bin rfl rfl Fw.b_eql) rfl ?_ ?_
  rintro k2
  refine Fw.s (Fw.val_assign rfl) rfl ?_
  refine Fw.nil ?_
  refine hK10 _ _ ?_
  refine Fw.condT rfl ?_
  refine Fw.seq fun _ hK12 => ?_
  have hBr : B ≤ w1.heap.size := (Nat.le_trans hBw HB.size)
  refine Fw.regionHS (fun W_ => Below (B) w1 W_ ∧ Blk W_ gx 65 #[.int .i64 x.k, .int .i64 x.t, .int .i64 x.g, .int .i64 x.o.u, .int .i64 x.o.e, .int .i64 x.o.k, .int .i64 x.o.i, .int .i64 x.o.n]) (by kernel_rfl) ⟨(Fw.drew_low w1).mono hBr, Hx.low (Fw.drew_low w1)⟩ ?_
  have R_Hx := Hx
  have R_HB := HB
  intro w4 hb HS
  replace HS := HS.1
  replace HAg := HAg.low hb
  replace HRa := HRa.low hb
  replace HCC := HCC.trans (Chg.of_below hb _) (fun _ _ h => h)
  replace Hx := Hx.low hb
  replace HB := HB.trans (hb.mono (Nat.le_trans hBw HB.size))
  clear hb
  refine Fw.hTk 0 rfl rfl (Fw.yV (Fw.val_move rfl)) rfl ?_
  refine Fw.hTk 1 rfl rfl (Fw.yV (Fw.val_fieldAddr fl65_1 rfl rfl)) rfl ?_
  refine Fw.hTk 2 rfl rfl (Fw.yV (Fw.val_load sc2 rfl (fun _ h_ => h_.2.cell 1))) rfl ?_
  refine Fw.hTk 4 rfl rfl (Fw.yV (Fw.val_move rfl)) rfl ?_
  refine Fw.hTk 5 rfl rfl (Fw.yV (Fw.val_fieldAddr fl65_1 rfl rfl)) rfl ?_
  refine Fw.hTk 6 rfl rfl (Fw.yV (Fw.val_load sc2 rfl (fun _ h_ => h_.2.cell 1))) rfl ?_
  refine Fw.hAll1 3 (by kernel_rfl) ?_
  refine Fw.hOp 3 rfl ?_
  refine Fw.call cf26 rfl rfl (proceed_any _ p pf pg N E u a HAg hg x.t) ?_
  rintro e_ w5 ⟨rfl, H2, hc⟩
  refine ⟨_, rfl, ?_⟩
  have hc2 : Chg (fun k => k = p ∨ k = pf) w4 w5 := Chg.wk hc (fun _ e => .inl e)
  clear hc
  replace HRa := HRa.other HAg hc2 (by omega) (by omega)
  replace HCC := HCC.trans hc2 (fun _ _ e => .inl e)
  replace Hx := Hx.chg hc2 (by omega)
  replace HS := HS.trans (hc2.below (fun k e => by omega) (Nat.le_trans hBr HS.size))
  replace HB := HB.trans (hc2.below (B := B) (fun k e => by omega) (Nat.le_trans hBw HB.size))
  clear hc2 HAg
  have HAg := H2
  clear H2
  refine Fw.hNext ⟨HS, Hx⟩ ?_
  refine Fw.hAll1 7 (by kernel_rfl) ?_
  refine Fw.hOp 7 rfl ?_
  refine Fw.call cf37 rfl rfl (rDo_any _ B q N E u Ae ce mn mg x.t HRa) ?_
  rintro e_ w6 ⟨hk1, rfl, H2, hc⟩
  refine ⟨_, rfl, ?_⟩
  have hc2 : Chg (· = q) w5 w6 := hc
  clear hc
  replace HAg := HAg.radio HRa hc2
  replace HCC := HCC.trans hc2 (fun _ _ e => .inr e)
  replace Hx := Hx.chg hc2 (by omega)
  replace HS := HS.trans (hc2.below (fun k e => by omega) (Nat.le_trans hBr HS.size))
  replace HB := HB.trans (hc2.below (B := B) (fun k e => by omega) (Nat.le_trans hBw HB.size))
  clear hc2 HRa
  have HRa := H2
  clear H2
  refine Fw.hNext ⟨HS, Hx⟩ ?_
  refine Fw.hTk 8 rfl rfl (Fw.yV (Fw.val_bin rfl rfl Fw.b_eql)) rfl ?_
  refine Fw.hTk 9 rfl rfl (Fw.yV (Fw.val_assign rfl)) rfl ?_
  refine Fw.hDone (by kernel_rfl) ?_
  refine hK12 _ _ (Fw.FC.sub (f' := [(6, _)]) (.cons rfl .nil) ?_)
  refine Fw.ret ?_
  refine Fw.X_blockR ?_
  refine Fw.X_ret ?_
  refine Fw.ret_ [.tmp 6] [_] Try.results22 (.tmp rfl .nil) ?_
  have e2 : Ag.lk N u (mn, mg) x = (max mn (Ag.cl x.t), mg) := if_neg k1
  have e1 : Ag.act N E u a x = Ag.proceed E a x.t := (if_neg k1).trans (if_pos k2)
  rw [e1, e2]
  exact ⟨_, rfl, HAg, HRa, HCC⟩
  rintro k2
  refine Fw.s (Fw.val_assign rfl) rfl ?_
  refine Fw.nil ?_
  refine hK10 _ _ ?_
  refine Fw.condF rfl ?_
  refine Fw.seq fun _ hK13 => ?_
  refine Fw.region ?_
  refine Fw.s2 (Fw.val_bin rfl rfl Fw.b_eql) rfl ?_ ?_
  rintro k3
  refine Fw.s (Fw.val_assign rfl) rfl ?_
  refine Fw.nil ?_
  refine hK13 _ _ (Fw.FC.sub (f' := [(56, _), (16, _), (5, _), (0, _), (1, _)]) (.cons rfl (.cons rfl (.cons rfl (.cons rfl (.cons rfl .nil))))) ?_)
  refine Fw.condT rfl ?_
  refine Fw.seq fun _ hK15 => ?_
  have hBr : B ≤ w1.heap.size := (Nat.le_trans hBw HB.size)
  refine Fw.regionHS (fun W_ => Below (B) w1 W_ ∧ Blk W_ gx 65 #[.int .i64 x.k, .int .i64 x.t, .int .i64 x.g, .int .i64 x.o.u, .int .i64 x.o.e, .int .i64 x.o.k, .int .i64 x.o.i, .int .i64 x.o.n]) (by kernel_rfl) ⟨(Fw.drew_low w1).mono hBr, Hx.low (Fw.drew_low w1)⟩ ?_
  have R_Hx := Hx
  have R_HB := HB
  intro w7 hb HS
  replace HS := HS.1
  replace HAg := HAg.low hb
  replace HRa := HRa.low hb
  replace HCC := HCC.trans (Chg.of_below hb _) (fun _ _ h => h)
  replace Hx := Hx.low hb
  replace HB := HB.trans (hb.mono (Nat.le_trans hBw HB.size))
  clear hb
  refine Fw.hTk 0 rfl rfl (Fw.yV (Fw.val_move rfl)) rfl ?_
  refine Fw.hTk 1 rfl rfl (Fw.yV (Fw.val_fieldAddr fl65_1 rfl rfl)) rfl ?_
  refine Fw.hTk 2 rfl rfl (Fw.yV (Fw.val_load sc2 rfl (fun _ h_ => h_.2.cell 1))) rfl ?_
  refine Fw.hTk 4 rfl rfl (Fw.yV (Fw.val_move rfl)) rfl ?_
  refine Fw.hTk 5 rfl rfl (Fw.yV (Fw.val_fieldAddr fl65_1 rfl rfl)) rfl ?_
  refine Fw.hTk 6 rfl rfl (Fw.yV (Fw.val_load sc2 rfl (fun _ h_ => h_.2.cell 1))) rfl ?_
  refine Fw.hAll1 3 (by kernel_rfl) ?_
  refine Fw.hOp 3 rfl ?_
  refine Fw.call cf38 rfl rfl (toggle_any _ p pf pg N E u a HAg hg x.t) ?_
  rintro e_ w8 ⟨rfl, H2, hc⟩
  refine ⟨_, rfl, ?_⟩
  have hc2 : Chg (fun k => k = p ∨ k = pf) w7 w8 := Chg.wk hc (fun _ e => .inl e)
  clear hc
  replace HRa := HRa.other HAg hc2 (by omega) (by omega)
  replace HCC := HCC.trans hc2 (fun _ _ e => .inl e)
  replace Hx := Hx.chg hc2 (by omega)
  replace HS := HS.trans (hc2.below (fun k e => by omega) (Nat.le_trans hBr HS.size))
  replace HB := HB.trans (hc2.below (B := B) (fun k e => by omega) (Nat.le_trans hBw HB.size))
  clear hc2 HAg
  have HAg := H2
  clear H2
  refine Fw.hNext ⟨HS, Hx⟩ ?_
  refine Fw.hAll1 7 (by kernel_rfl) ?_
  refine Fw.hOp 7 rfl ?_
  refine Fw.call cf39 rfl rfl (rOff_any _ B q N E u Ae ce mn mg x.t HRa) ?_
  rintro e_ w9 ⟨hk1, rfl, H2, hc⟩
  refine ⟨_, rfl, ?_⟩
  have hc2 : Chg (· = q) w8 w9 := hc
  clear hc
  replace HAg := HAg.radio HRa hc2
  replace HCC := HCC.trans hc2 (fun _ _ e => .inr e)
  replace Hx := Hx.chg hc2 (by omega)
  replace HS := HS.trans (hc2.below (fun k e => by omega) (Nat.le_trans hBr HS.size))
  replace HB := HB.trans (hc2.below (B := B) (fun k e => by omega) (Nat.le_trans hBw HB.size))
  clear hc2 HRa
  have HRa := H2
  clear H2
  refine Fw.hNext ⟨HS, Hx⟩ ?_
  refine Fw.hTk 8 rfl rfl (Fw.yV (Fw.val_bin rfl rfl Fw.b_eql)) rfl ?_
  refine Fw.hTk 9 rfl rfl (Fw.yV (Fw.val_assign rfl)) rfl ?_
  refine Fw.hDone (by kernel_rfl) ?_
  refine hK15 _ _ (Fw.FC.sub (f' := [(6, _)]) (.cons rfl .nil) ?_)
  refine Fw.ret ?_
  refine Fw.X_blockR ?_
  refine Fw.X_ret ?_
  refine Fw.ret_ [.tmp 6] [_] Try.results22 (.tmp rfl .nil) ?_
  have e2 : Ag.lk N u (mn, mg) x = (max mn (Ag.cl x.t), mg) := if_neg k1
  have e1 : Ag.act N E u a x = Ag.toggle N E a x.t := (if_neg k1).trans ((if_neg k2).trans (if_pos k3))
  rw [e1, e2]
  exact ⟨_, rfl, HAg, HRa, HCC⟩
  rintro k3
  refine Fw.s (Fw.val_assign rfl) rfl ?_
  refine Fw.nil ?_
  refine hK13 _ _ (Fw.FC.sub (f' := [(56, _), (16, _), (5, _), (0, _), (1, _)]) (.cons rfl (.cons rfl (.cons rfl (.cons rfl (.cons rfl .nil))))) ?_)
  refine Fw.condF rfl ?_
  refine Fw.seq fun _ hK16 => ?_
  refine Fw.region ?_
  refine Fw.s2 (Fw.val_bin rfl rfl Fw.b_eql) rfl ?_ ?_
  rintro k4
  refine Fw.s (Fw.val_assign rfl) rfl ?_
  refine Fw.nil ?_
  refine hK16 _ _ ?_
  refine Fw.condT rfl ?_
  refine Fw.seq fun _ hK18 => ?_
  refine Fw.region ?_
  refine Fw.s (Fw.val_move rfl) rfl ?_
  refine Fw.s (Fw.val_fieldAddr fl65_1 rfl rfl) rfl ?_
  refine Fw.ld sc2 rfl (Hx.cell 1) rfl ?_
  refine Fw.s (Fw.val_fieldAddr fl65_2 rfl rfl) rfl ?_
  refine Fw.ld sc2 rfl (Hx.cell 2) rfl ?_
  refine Fw.call cf23 rfl rfl (report_any _ p pf pg N E u a HAg hg x.t x.g) ?_
  rintro e_ w10 ⟨rfl, H2, hc⟩
  refine ⟨_, rfl, ?_⟩
  have hc2 : Chg (fun k => k = p ∨ k = pf) w1 w10 := Chg.wk hc (fun _ e => .inl e)
  clear hc
  replace HRa := HRa.other HAg hc2 (by omega) (by omega)
  replace HCC := HCC.trans hc2 (fun _ _ e => .inl e)
  replace Hx := Hx.chg hc2 (by omega)
  replace HB := HB.trans (hc2.below (B := B) (fun k e => by omega) (Nat.le_trans hBw HB.size))
  clear hc2 HAg
  have HAg := H2
  clear H2
  refine Fw.s (Fw.val_move rfl) rfl ?_
  refine Fw.s (Fw.val_extract rfl rfl) rfl ?_
  refine Fw.s (Fw.val_extract rfl rfl) rfl ?_
  refine Fw.alloc ze48 rfl ?_
  intro w11 gy egy Hy hb
  have n_gx_gy : gx < gy := by have := Hx.lt; omega
  have na_HAg_gy : p < gy ∧ pf < gy := by have := HAg.lt; omega
  have na_HRa_gy : q < gy := by have := HRa.lt; omega
  have lw_gy : w.heap.size ≤ gy := by have := HCC.size; omega
  have lgy : B ≤ gy := by have := (Nat.le_trans hBw HB.size); omega
  replace HAg := HAg.low hb
  replace HRa := HRa.low hb
  replace HCC := HCC.trans (Chg.of_below hb _) (fun _ _ h => h)
  replace Hx := Hx.low hb
  replace HB := HB.trans (hb.mono (Nat.le_trans hBw HB.size))
  clear hb
  clear egy
  refine Fw.storeW sz48 rfl rfl Hy rfl rfl (by exact Fw.oneCells rfl) ?_
  intro w12 N_ hc
  replace HAg := HAg.over hc ((Fw.Kp.refl [48] _).one hc Hy rfl) (by omega) (by omega) rfl rfl rfl rfl
  replace HRa := HRa.over hc ((Fw.Kp.refl [48] _).one hc Hy rfl) (by omega) (fun k e => by omega) rfl
  replace HCC := HCC.trans hc (fun k hk_ e => by exfalso; omega)
  replace Hx := Hx.chg hc (by omega)
  replace HB := HB.trans (hc.below (B := B) (fun k e => by omega) (Nat.le_trans hBw HB.size))
  clear hc
  clear Hy
  have Hy := N_
  clear N_
  replace Hy : Blk w12 gy 48 #[.int .i64 (Ag.reportS E u a x.t x.g).u, .int .i64 (Ag.reportS E u a x.t x.g).q, .int .i64 (Ag.reportS E u a x.t x.g).s, .int .i64 (Ag.reportS E u a x.t x.g).n, .int .i64 (Ag.reportS E u a x.t x.g).e] := Hy
  refine Fw.s (Fw.val_assign rfl) rfl ?_
  refine Fw.nil ?_
  refine hK18 _ _ (Fw.FC.sub (f' := [(12, _), (11, _), (5, _), (1, _)]) (.cons rfl (.cons rfl (.cons rfl (.cons rfl .nil)))) ?_)
  refine Fw.seq fun _ hK19 => ?_
  refine Fw.region ?_
  refine Fw.s (Fw.val_move rfl) rfl ?_
  refine Fw.s (Fw.val_fieldAddr fl65_1 rfl rfl) rfl ?_
  refine Fw.ld sc2 rfl (Hx.cell 1) rfl ?_
  refine Fw.s (Fw.val_fieldAddr fl65_2 rfl rfl) rfl ?_
  refine Fw.ld sc2 rfl (Hx.cell 2) rfl ?_
  refine Fw.call cf40 rfl rfl (rWord_any _ B q N E u Ae ce mn mg x.t x.g HRa) ?_
  rintro e_ w13 ⟨sz, hb1, rfl, H2, hc⟩
  refine ⟨_, rfl, ?_⟩
  have hc2 : Chg (· = q) w12 w13 := hc
  clear hc
  replace HAg := HAg.radio HRa hc2
  replace HCC := HCC.trans hc2 (fun _ _ e => .inr e)
  replace Hx := Hx.chg hc2 (by omega)
  replace Hy := Hy.chg hc2 (by omega)
  replace HB := HB.trans (hc2.below (B := B) (fun k e => by omega) (Nat.le_trans hBw HB.size))
  clear hc2 HRa
  have HRa := H2
  clear H2
  refine Fw.s (Fw.val_move rfl) rfl ?_
  refine Fw.s (Fw.val_extract rfl rfl) rfl ?_
  refine Fw.s (Fw.val_extract rfl rfl) rfl ?_
  refine Fw.alloc ze48 rfl ?_
  intro w14 gz egz Hz hb
  have n_gx_gz : gx < gz := by have := Hx.lt; omega
  have n_gy_gz : gy < gz := by have := Hy.lt; omega
  have na_HAg_gz : p < gz ∧ pf < gz := by have := HAg.lt; omega
  have na_HRa_gz : q < gz := by have := HRa.lt; omega
  have lw_gz : w.heap.size ≤ gz := by have := HCC.size; omega
  have lgz : B ≤ gz := by have := (Nat.le_trans hBw HB.size); omega
  replace HAg := HAg.low hb
  replace HRa := HRa.low hb
  replace HCC := HCC.trans (Chg.of_below hb _) (fun _ _ h => h)
  replace Hx := Hx.low hb
  replace Hy := Hy.low hb
  replace HB := HB.trans (hb.mono (Nat.le_trans hBw HB.size))
  clear hb
  clear egz
  refine Fw.storeW sz48 rfl rfl Hz rfl rfl (by exact Fw.oneCells rfl) ?_
  intro w15 N_ hc
  replace HAg := HAg.over hc ((Fw.Kp.refl [48] _).one hc Hz rfl) (by omega) (by omega) rfl rfl rfl rfl
  replace HRa := HRa.over hc ((Fw.Kp.refl [48] _).one hc Hz rfl) (by omega) (fun k e => by omega) rfl
  replace HCC := HCC.trans hc (fun k hk_ e => by exfalso; omega)
  replace Hx := Hx.chg hc (by omega)
  replace Hy := Hy.chg hc (by omega)
  replace HB := HB.trans (hc.below (B := B) (fun k e => by omega) (Nat.le_trans hBw HB.size))
  clear hc
  clear Hz
  have Hz := N_
  clear N_
  replace Hz : Blk w15 gz 48 #[.int .i64 sz.u, .int .i64 sz.q, .int .i64 sz.s, .int .i64 sz.n, .int .i64 sz.e] := Hz
  refine Fw.s (Fw.val_assign rfl) rfl ?_
  refine Fw.nil ?_
  refine hK19 _ _ (Fw.FC.sub (f' := [(14, _), (13, _), (12, _), (11, _)]) (.cons rfl (.cons rfl (.cons rfl (.cons rfl .nil)))) ?_)
  refine Fw.seq fun _ hK20 => ?_
  refine Fw.region ?_
  refine Fw.ldA ag48 rfl (Fw.rdBlk Hy) rfl rfl ?_
  refine Fw.ldA ag48 rfl (Fw.rdBlk Hz) rfl rfl ?_
  refine Fw.s2 (Fw.val_bin rfl rfl (Fw.b_eqlA eq48 [(Ag.reportS E u a x.t x.g).u, (Ag.reportS E u a x.t x.g).q, (Ag.reportS E u a x.t x.g).s, (Ag.reportS E u a x.t x.g).n, (Ag.reportS E u a x.t x.g).e] [sz.u, sz.q, sz.s, sz.n, sz.e] rfl rfl)) rfl ?_ ?_
  rintro q1
  refine Fw.s (Fw.val_move rfl) rfl ?_
  refine Fw.gT (d := 90) rfl rfl ?_
  refine Fw.s (Fw.val_move rfl) rfl ?_
  refine Fw.gT (d := 90) rfl rfl ?_
  refine Fw.s (Fw.val_move rfl) rfl ?_
  refine Fw.gT (d := 90) rfl rfl ?_
  refine Fw.s (Fw.val_bin rfl rfl (Fw.b_eqlB Try.underlying4)) rfl ?_
  refine Fw.s (Fw.val_pickT rfl rfl) rfl ?_
  refine Fw.s (Fw.val_assign rfl) rfl ?_
  refine Fw.nil ?_
  refine hK20 _ _ (Fw.FC.sub (f' := [(6, _)]) (.cons rfl .nil) ?_)
  refine Fw.ret ?_
  refine Fw.X_blockR ?_
  refine Fw.X_ret ?_
  refine Fw.ret_ [.tmp 6] [_] Try.results22 (.tmp rfl .nil) ?_
  have e2 : Ag.lk N u (mn, mg) x = (max mn (Ag.cl x.t), mg) := if_neg k1
  have e1 : Ag.act N E u a x = Ag.report E u a x.t x.g := (if_neg k1).trans ((if_neg k2).trans ((if_neg k3).trans (if_pos k4)))
  rw [e1, e2]
  exact ⟨_, rfl, HAg, HRa, HCC⟩
  rintro q1
  refine Fw.s (Fw.val_move rfl) rfl ?_
  refine Fw.gF (d := 90) rfl rfl rfl rfl ?_
  refine Fw.gF (d := 90) rfl rfl rfl rfl ?_
  refine Fw.gF (d := 90) rfl rfl rfl rfl ?_
  refine Fw.s (Fw.val_pickF rfl rfl) rfl ?_
  refine Fw.s (Fw.val_assign rfl) rfl ?_
  refine Fw.nil ?_
  refine hK20 _ _ (Fw.FC.sub (f' := [(6, _)]) (.cons rfl .nil) ?_)
  refine Fw.ret ?_
  refine Fw.X_blockR ?_
  refine Fw.X_ret ?_
  refine Fw.ret_ [.tmp 6] [_] Try.results22 (.tmp rfl .nil) ?_
  have e2 : Ag.lk N u (mn, mg) x = (max mn (Ag.cl x.t), mg) := if_neg k1
  have e1 : Ag.act N E u a x = Ag.report E u a x.t x.g := (if_neg k1).trans ((if_neg k2).trans ((if_neg k3).trans (if_pos k4)))
  rw [e1, e2]
  exact ⟨_, rfl, HAg, HRa, HCC⟩
  rintro k4
  refine Fw.s (Fw.val_assign rfl) rfl ?_
  refine Fw.nil ?_
  refine hK16 _ _ ?_
  refine Fw.condF rfl ?_
  refine Fw.skip ?_
  refine Fw.X_blockN ?_
  refine hK2 _ _ ?_
  refine Fw.seq fun _ hK22 => ?_
  refine Fw.region ?_
  refine Fw.s (Fw.val_move rfl) rfl ?_
  refine Fw.s (Fw.val_fieldAddr fl65_1 rfl rfl) rfl ?_
  refine Fw.ld sc2 rfl (Hx.cell 1) rfl ?_
  refine Fw.call cf13 rfl rfl (advance_any _ p pf pg N E u a HAg hg x.t) ?_
  rintro e_ w16 ⟨rfl, H2, hc⟩
  refine ⟨_, rfl, ?_⟩
  have hc2 : Chg (fun k => k = p ∨ k = pf) w1 w16 := Chg.wk hc (fun _ e => .inl e)
  clear hc
  replace HRa := HRa.other HAg hc2 (by omega) (by omega)
  replace HCC := HCC.trans hc2 (fun _ _ e => .inl e)
  replace Hx := Hx.chg hc2 (by omega)
  replace HB := HB.trans (hc2.below (B := B) (fun k e => by omega) (Nat.le_trans hBw HB.size))
  clear hc2 HAg
  have HAg := H2
  clear H2
  refine Fw.nil ?_
  refine hK22 _ _ (Fw.FC.sub (f' := [(5, _), (1, _)]) (.cons rfl (.cons rfl .nil)) ?_)
  refine Fw.seq fun _ hK23 => ?_
  refine Fw.region ?_
  refine Fw.s (Fw.val_move rfl) rfl ?_
  refine Fw.s (Fw.val_fieldAddr fl65_1 rfl rfl) rfl ?_
  refine Fw.ld sc2 rfl (Hx.cell 1) rfl ?_
  refine Fw.call cf41 rfl rfl (tick_any _ B q N E u Ae ce mn mg x.t HRa) ?_
  rintro e_ w17 ⟨rfl, H2, hc⟩
  refine ⟨_, rfl, ?_⟩
  have hc2 : Chg (· = q) w16 w17 := hc
  clear hc
  replace HAg := HAg.radio HRa hc2
  replace HCC := HCC.trans hc2 (fun _ _ e => .inr e)
  replace Hx := Hx.chg hc2 (by omega)
  replace HB := HB.trans (hc2.below (B := B) (fun k e => by omega) (Nat.le_trans hBw HB.size))
  clear hc2 HRa
  have HRa := H2
  clear H2
  refine Fw.nil ?_
  refine hK23 _ _ ?_
  refine Fw.seq fun _ hK24 => ?_
  refine Fw.region ?_
  refine Fw.s (Fw.val_assign rfl) rfl ?_
  refine Fw.nil ?_
  refine hK24 _ _ ?_
  refine Fw.ret ?_
  refine Fw.ret_ [.tmp 6] [_] Try.results22 (.tmp rfl .nil) ?_
  have e2 : Ag.lk N u (mn, mg) x = (max mn (Ag.cl x.t), mg) := if_neg k1
  have e1 : Ag.act N E u a x = Ag.pass E a x.t := (if_neg k1).trans ((if_neg k2).trans ((if_neg k3).trans (if_neg k4)))
  rw [e1, e2]
  exact ⟨_, rfl, HAg, HRa, HCC⟩

end Go.Proofs.Ytmacmlgjejdhpaa
