/- Layer 29: the laws SingleIncident, Reports. -/
import Derived.Test.YtmacmlgjejdhpaaAj
namespace Go.Proofs.Ytmacmlgjejdhpaa
set_option linter.unusedSimpArgs false
set_option linter.unusedVariables false
open Go.RowKit

theorem Ag.due_pos {a : Ag} {g : Int} (h : decide (Ag.changed a ∨ Ag.due a g) = true) (hg : g ≤ 0) (hn : ¬ Ag.changed a) : False := by
  have h2 := (of_decide_eq_true h).resolve_left hn
  have := h2.1
  omega
set_option maxRecDepth 100000 in
set_option maxHeartbeats 4000000 in
theorem lsingle_any (w : World) (N : Int) (R : List Rg.Re) (Ae : Option Addr) (ce : Nat) (hR : Rd w Ae (R.flatMap Rg.Re.cells)) (u v : Int) (Al : Option Addr) (l : List Ag.Act) (cl : Nat) (hL : Rd w Al (l.flatMap Ag.Act.cells)) : Calls Try.prog 6 #[.agg #[.int .i64 u, .int .i64 v, .int .i64 N, .slice Ae R.length ce], .slice Al l.length cl] w fun e_ w' => e_ = .returned (.bool true) ∧ Below w.heap.size w w' := by
  by_cases hm : MadeOk u v N R
  obtain ⟨hr, hu, hv⟩ := hm
  obtain ⟨N, E, rfl, rfl, hn⟩ := Rg.right_net hr
  rw [Rg.re_cells] at hR
  rw [List.length_map]
  have hgA : Ag.Good N E u (Ag.new u v.toNat) := Ag.Good.new hn (by omega)
  refine Fw.calls Try.func6 rfl Try.ntmps6 rfl ?_
  have HB := Below.refl (w.heap.size) w
  refine Fw.seq fun _ hK1 => ?_
  refine Fw.region ?_
  refine Fw.box rfl rfl ?_
  intro w1 gx egx Hx hb
  have lw_gx : w.heap.size ≤ gx := by have := HB.size; omega
  have lgx : w.heap.size ≤ gx := by have := HB.size; omega
  replace HB := HB.trans (hb.mono HB.size)
  clear hb
  clear egx
  refine Fw.s (Fw.val_assign rfl) rfl ?_
  refine Fw.nil ?_
  refine hK1 _ _ ?_
  refine Fw.seq fun _ hK2 => ?_
  refine Fw.region ?_
  refine Fw.ldA ag26 rfl (Fw.rdBlk Hx) rfl rfl ?_
  refine Fw.call cf21 rfl rfl (both_yes _ N E Ae ce (hR.low HB) hn u v hu hv) ?_
  rintro e_ w2 ⟨p, pf, pg, q, rfl, hp, hpf, HAg, HRa, hb⟩
  refine ⟨_, rfl, ?_⟩
  have hz1 := HB.size
  have hgx := Hx.lt
  replace Hx := Hx.low hb
  replace HB := HB.trans (hb.mono HB.size)
  clear hb
  have hBq0 := HRa.1
  replace HRa := HRa.lower (B := w.heap.size) (by have := HRa.1; omega) ⟨HB.size, w, Nat.le_refl _, hR, HB⟩
  have hl2 := HRa.lt
  have hl1 := HAg.lt
  refine Fw.s (Fw.val_move rfl) rfl ?_
  refine Fw.s (Fw.val_extract rfl rfl) rfl ?_
  refine Fw.s (Fw.val_extract rfl rfl) rfl ?_
  refine Fw.s (Fw.val_extract rfl rfl) rfl ?_
  refine Fw.s (Fw.val_assign rfl) rfl ?_
  refine Fw.s (Fw.val_assign rfl) rfl ?_
  refine Fw.s (Fw.val_assign rfl) rfl ?_
  refine Fw.nil ?_
  refine hK2 _ _ (Fw.FC.sub (f' := [(7, _), (6, _), (5, _), (1, _)]) (.cons rfl (.cons rfl (.cons rfl (.cons rfl .nil)))) ?_)
  refine Fw.seq fun _ hK3 => ?_
  refine Fw.seq fun _ hK4 => ?_
  refine Fw.region ?_
  refine Fw.call cf9 rfl rfl (awake29_any _) ?_
  rintro e_ w3 ⟨rfl, hb⟩
  refine ⟨_, rfl, ?_⟩
  replace Hx := Hx.low hb
  replace HAg := HAg.low hb
  replace HRa := HRa.low hb
  replace HB := HB.trans (hb.mono HB.size)
  clear hb
  refine Fw.s (Fw.val_not rfl) rfl ?_
  refine Fw.s (Fw.val_move rfl) rfl ?_
  refine Fw.gT (d := 22) rfl rfl ?_
  refine Fw.s (Fw.val_move rfl) rfl ?_
  refine Fw.gT (d := 22) rfl rfl ?_
  refine Fw.s (Fw.val_not rfl) rfl ?_
  refine Fw.s (Fw.val_pickF rfl rfl) rfl ?_
  refine Fw.s (Fw.val_move rfl) rfl ?_
  refine Fw.gT (d := 26) rfl rfl ?_
  refine Fw.s (Fw.val_move rfl) rfl ?_
  refine Fw.gT (d := 26) rfl rfl ?_
  refine Fw.s (Fw.val_len Try.underlying38 rfl) rfl ?_
  refine Fw.gT (d := 26) rfl rfl ?_
  refine Fw.s2 (Fw.val_bin rfl rfl Fw.b_gtr) rfl ?_ ?_
  rintro h40
  refine Fw.s (Fw.val_pickF rfl rfl) rfl ?_
  refine Fw.nil ?_
  refine hK4 _ _ (Fw.FC.sub (f' := [(30, _), (6, _), (5, _), (1, _)]) (.cons rfl (.cons rfl (.cons rfl (.cons rfl .nil)))) ?_)
  refine Fw.condT rfl ?_
  refine Fw.seq fun _ hK6 => ?_
  refine Fw.region ?_
  refine Fw.call cf9 rfl rfl (awake29_any _) ?_
  rintro e_ w4 ⟨rfl, hb⟩
  refine ⟨_, rfl, ?_⟩
  replace Hx := Hx.low hb
  replace HAg := HAg.low hb
  replace HRa := HRa.low hb
  replace HB := HB.trans (hb.mono HB.size)
  clear hb
  refine Fw.s (Fw.val_assign rfl) rfl ?_
  refine Fw.nil ?_
  refine hK6 _ _ ?_
  refine Fw.ret ?_
  refine Fw.X_ret ?_
  refine Fw.ret_ [.tmp 4] [_] Try.results6 (.tmp rfl .nil) ?_
  exact ⟨rfl, HB⟩
  rintro h40
  refine Fw.s (Fw.val_pickF rfl rfl) rfl ?_
  refine Fw.nil ?_
  refine hK4 _ _ (Fw.FC.sub (f' := [(30, _), (6, _), (5, _), (1, _)]) (.cons rfl (.cons rfl (.cons rfl (.cons rfl .nil)))) ?_)
  refine Fw.condF rfl ?_
  refine Fw.skip ?_
  refine hK3 _ _ ?_
  refine Fw.seq fun _ hK7 => ?_
  refine Fw.seq fun _ hK8 => ?_
  refine Fw.region ?_
  refine Fw.s (Fw.val_move rfl) rfl ?_
  refine Fw.s (Fw.val_bin rfl rfl (Fw.b_nilP Try.underlying33)) rfl ?_
  refine Fw.nil ?_
  refine hK8 _ _ ?_
  refine Fw.condF rfl ?_
  refine Fw.skip ?_
  refine hK7 _ _ ?_
  refine Fw.seq fun _ hK9 => ?_
  refine Fw.region ?_
  refine Fw.s (Fw.val_build (ps := []) rfl (bu43_)) rfl ?_
  refine Fw.alloc ze43 rfl ?_
  intro w5 gl egl Hl hb
  have n_gx_gl : gx < gl := by have := Hx.lt; omega
  have na_HAg_gl : p < gl ∧ pf < gl := by have := HAg.lt; omega
  have na_HRa_gl : q < gl := by have := HRa.lt; omega
  have lw_gl : w.heap.size ≤ gl := by have := HB.size; omega
  have lgl : w.heap.size ≤ gl := by have := HB.size; omega
  replace Hx := Hx.low hb
  replace HAg := HAg.low hb
  replace HRa := HRa.low hb
  replace HB := HB.trans (hb.mono HB.size)
  clear hb
  clear egl
  refine Fw.storeW sz43 rfl rfl Hl rfl rfl (by exact Fw.oneCells rfl) ?_
  intro w6 N_ hc
  replace Hx := Hx.chg hc (by omega)
  replace HAg := HAg.over hc ((Fw.Kp.refl [43] _).one hc Hl rfl) (by omega) (by omega) rfl rfl rfl rfl
  replace HRa := HRa.over hc ((Fw.Kp.refl [43] _).one hc Hl rfl) (by omega) (fun k e => by omega) rfl
  replace HB := HB.trans (hc.below (B := w.heap.size) (fun k e => by omega) HB.size)
  clear hc
  clear Hl
  have Hl := N_
  clear N_
  replace Hl : Blk w6 gl 43 #[.int .i64 0, .int .i64 0, .int .i64 0, .int .i64 0, .int .i64 0] := Hl
  refine Fw.nil ?_
  refine hK9 _ _ ?_
  refine Fw.seq fun _ hK10 => ?_
  refine Fw.seq fun _ hK11 => ?_
  refine Fw.region ?_
  refine Fw.s (Fw.val_move rfl) rfl ?_
  refine Fw.s (Fw.val_len Try.underlying38 rfl) rfl ?_
  refine Fw.s (Fw.val_move rfl) rfl ?_
  refine Fw.nil ?_
  refine hK11 _ _ ?_
  refine Fw.block ?_
  have HAg := HAg
  have hsi0 : Ag.SI (Ag.new u v.toNat) := Ag.SI.new u v.toNat
  refine Fw.loop (fun m_ f_ W_ => ∃ (k : Nat) (b : Ag) (mn : Int) (mg : Or.F), m_ = l.length - k ∧ k ≤ l.length ∧ Ag.Good N E u b ∧ Ag.SI b ∧ AgAt W_ p pf pg N E u b ∧ RaAt W_ w.heap.size q N E u Ae ce mn mg ∧ Blk W_ gl 43 #[.int .i64 b.f.o.u, .int .i64 b.f.o.e, .int .i64 b.f.o.k, .int .i64 b.f.o.i, .int .i64 b.f.o.n] ∧ Below (w.heap.size) w W_ ∧ f_ = [(37, .int .i64 k), (36, .int .i64 l.length), (35, .slice Al l.length cl), (8, .pointer (some ⟨gl, 0, none⟩)), (6, .pointer (some ⟨q, 0, none⟩)), (5, .pointer (some ⟨p, 0, none⟩))]) ⟨_, _, ⟨0, Ag.new u v.toNat, _, _, rfl, Nat.zero_le _, hgA, hsi0, HAg, HRa, Hl, HB, rfl⟩, (.cons rfl (.cons rfl (.cons rfl (.cons rfl (.cons rfl (.cons rfl .nil))))))⟩ ?_
  clear HAg HRa Hl HB
  rintro m12_ _ w7 ⟨k, b, mn, mg, hm12_, hkl, hgb, hsb, HAg, HRa, Hl, HB, rfl⟩
  refine Fw.seq fun _ hK13 => ?_
  refine Fw.region ?_
  refine Fw.s2 (Fw.val_bin rfl rfl Fw.b_lss) rfl ?_ ?_
  rintro hlt
  refine Fw.nil ?_
  refine hK13 _ _ ?_
  refine Fw.seq fun _ hK15 => ?_
  refine Fw.condT rfl ?_
  refine Fw.skip ?_
  refine hK15 _ _ ?_
  refine Fw.seq fun _ hK16 => ?_
  refine Fw.block ?_
  refine Fw.seq fun _ hK17 => ?_
  have hk : k < l.length := by omega
  obtain ⟨ad, b_, o_, hA, hadd, HLe⟩ := Fw.rdAt Ag.Act.len (by decide) hL k hk
  have hl1k := HAg.lt
  have hl2k := HRa.lt
  have hglk := Hl.lt
  have hst := Ag.single_step hgb hsb l[k]
  refine Fw.region ?_
  refine Fw.s (Fw.val_indexR Try.underlying38 sz65 rfl hA rfl rfl hk hadd) rfl ?_
  refine Fw.ldA ag65 rfl ((HLe.low HB)) rfl rfl ?_
  refine Fw.alloc ze65 rfl ?_
  intro w8 gy egy Hy hb
  have n_gl_gy : gl < gy := by have := Hl.lt; omega
  have na_HAg_gy : p < gy ∧ pf < gy := by have := HAg.lt; omega
  have na_HRa_gy : q < gy := by have := HRa.lt; omega
  have lw_gy : w.heap.size ≤ gy := by have := HB.size; omega
  have lgy : w.heap.size ≤ gy := by have := HB.size; omega
  replace HAg := HAg.low hb
  replace HRa := HRa.low hb
  replace Hl := Hl.low hb
  replace HB := HB.trans (hb.mono HB.size)
  clear hb
  clear egy
  refine Fw.storeW sz65 rfl rfl Hy rfl rfl (by exact Fw.oneCells rfl) ?_
  intro w9 N_ hc
  replace HAg := HAg.over hc ((Fw.Kp.refl [65] _).one hc Hy rfl) (by omega) (by omega) rfl rfl rfl rfl
  replace HRa := HRa.over hc ((Fw.Kp.refl [65] _).one hc Hy rfl) (by omega) (fun k e => by omega) rfl
  replace Hl := Hl.chg hc (by omega)
  replace HB := HB.trans (hc.below (B := w.heap.size) (fun k e => by omega) HB.size)
  clear hc
  clear Hy
  have Hy := N_
  clear N_
  replace Hy : Blk w9 gy 65 #[.int .i64 l[k].k, .int .i64 l[k].t, .int .i64 l[k].g, .int .i64 l[k].o.u, .int .i64 l[k].o.e, .int .i64 l[k].o.k, .int .i64 l[k].o.i, .int .i64 l[k].o.n] := Hy
  refine Fw.nil ?_
  refine hK17 _ _ ?_
  refine Fw.seq fun _ hK19 => ?_
  refine Fw.region ?_
  refine Fw.s (Fw.val_move rfl) rfl ?_
  refine Fw.call cf20 rfl rfl (agEpoch_any _ p pf pg N E u (b) HAg) ?_
  rintro e_ w10 ⟨rfl, hb⟩
  refine ⟨_, rfl, ?_⟩
  replace HAg := HAg.low hb
  replace HRa := HRa.low hb
  replace Hl := Hl.low hb
  replace Hy := Hy.low hb
  replace HB := HB.trans (hb.mono HB.size)
  clear hb
  refine Fw.s (Fw.val_assign rfl) rfl ?_
  refine Fw.nil ?_
  refine hK19 _ _ ?_
  refine Fw.seq_cutE (α := Int × Or.F) (fun x_ => match x_ with | ⟨mn2, mg2⟩ => [(5, .pointer (some ⟨p, 0, none⟩)), (6, .pointer (some ⟨q, 0, none⟩)), (8, .pointer (some ⟨gl, 0, none⟩)), (11, .int .i64 (Ag.epoch b)), (35, .slice Al l.length cl), (36, .int .i64 l.length), (37, .int .i64 k)]) (fun x_ W_ => match x_ with | ⟨mn2, mg2⟩ => AgAt W_ p pf pg N E u (Ag.act N E u b l[k]) ∧ RaAt W_ w.heap.size q N E u Ae ce mn2 mg2 ∧ Blk W_ gl 43 #[.int .i64 (Ag.act N E u b l[k]).f.o.u, .int .i64 (Ag.act N E u b l[k]).f.o.e, .int .i64 (Ag.act N E u b l[k]).f.o.k, .int .i64 (Ag.act N E u b l[k]).f.o.i, .int .i64 (Ag.act N E u b l[k]).f.o.n] ∧ Below (w.heap.size) w W_) ?_ (fun _ hK20 => ?_)
  rintro ⟨mn2, mg2⟩ w11 ⟨HAg, HRa, Hl, HB⟩
  show Fw.FC _ _ _ _ _ [(5, .pointer (some ⟨p, 0, none⟩)), (6, .pointer (some ⟨q, 0, none⟩)), (8, .pointer (some ⟨gl, 0, none⟩)), (11, .int .i64 (Ag.epoch b)), (35, .slice Al l.length cl), (36, .int .i64 l.length), (37, .int .i64 k)] _
  refine Fw.seq fun _ hK21 => ?_
  have hga1 := hgb.act (N := N) (E := E) (u := u) l[k]
  have hsa1 := hsb.act (N := N) (E := E) (u := u) l[k]
  obtain ⟨a1, ha1⟩ : ∃ a_, a_ = Ag.act N E u b l[k] := ⟨_, rfl⟩
  rw [← ha1] at HAg hst Hl hga1 hsa1
  obtain ⟨s1, s2, s3, s4⟩ := hst
  refine Fw.regionQ (by kernel_rfl) (by kernel_rfl) ?_
  refine Fw.q (Fw.val_move rfl) rfl ?_
  refine Fw.callQ cf20 rfl rfl (fun w_ hb_ => agEpoch_any _ p pf pg N E u (a1) (HAg.low hb_)) (fun _ _ _ h => h) ?_
  refine Fw.q (Fw.val_move rfl) rfl ?_
  refine Fw.q (Fw.Val.F (Fw.val_bin rfl rfl Fw.b_lss) (by omega)) rfl ?_
  refine Fw.q (Fw.val_move rfl) rfl ?_
  refine Fw.gTQ (d := 66) rfl rfl ?_
  refine Fw.q (Fw.val_move rfl) rfl ?_
  refine Fw.gTQ (d := 66) rfl rfl ?_
  refine Fw.callQ cf20 rfl rfl (fun w_ hb_ => agEpoch_any _ p pf pg N E u (a1) (HAg.low hb_)) (fun _ _ _ h => h) ?_
  refine Fw.gTQ (d := 66) rfl rfl ?_
  refine Fw.q (Fw.val_fieldAddr fl43_1 rfl rfl) rfl ?_
  refine Fw.gTQ (d := 66) rfl rfl ?_
  refine Fw.ldQ sc2 rfl (Hl.cell 1) rfl ?_
  refine Fw.gTQ (d := 66) rfl rfl ?_
  refine Fw.q (Fw.Val.F (Fw.val_bin rfl rfl Fw.b_neq) (by omega)) rfl ?_
  refine Fw.q (Fw.val_pickF rfl rfl) rfl ?_
  refine Fw.q (Fw.val_move rfl) rfl ?_
  refine Fw.gTQ (d := 73) rfl rfl ?_
  refine Fw.q (Fw.val_move rfl) rfl ?_
  refine Fw.gTQ (d := 73) rfl rfl ?_
  refine Fw.callQ cf16 rfl rfl (fun w_ hb_ => agIncident_any _ p pf pg N E u (a1) (HAg.low hb_)) (fun _ _ _ h => ⟨h.1, h.2 ▸ Below.refl _ _⟩) ?_
  refine Fw.gTQ (d := 73) rfl rfl ?_
  refine Fw.q2 (Fw.val_bin rfl rfl Fw.b_neq) rfl ?_ ?_
  rintro hi0
  refine Fw.gTQ (d := 73) rfl rfl ?_
  refine Fw.q (Fw.val_move rfl) rfl ?_
  refine Fw.gTQ (d := 77) rfl rfl ?_
  refine Fw.q (Fw.val_fieldAddr fl43_2 rfl rfl) rfl ?_
  refine Fw.gTQ (d := 77) rfl rfl ?_
  refine Fw.ldQ sc3 rfl (Hl.cell 2) rfl ?_
  refine Fw.gTQ (d := 77) rfl rfl ?_
  refine Fw.q (Fw.Val.F (Fw.val_bin rfl rfl Fw.b_neq) (by omega)) rfl ?_
  refine Fw.gTQ (d := 77) rfl rfl ?_
  refine Fw.q (Fw.val_move rfl) rfl ?_
  refine Fw.gTQ (d := 81) rfl rfl ?_
  refine Fw.q (Fw.val_move rfl) rfl ?_
  refine Fw.gTQ (d := 81) rfl rfl ?_
  refine Fw.callQ cf16 rfl rfl (fun w_ hb_ => agIncident_any _ p pf pg N E u (a1) (HAg.low hb_)) (fun _ _ _ h => ⟨h.1, h.2 ▸ Below.refl _ _⟩) ?_
  refine Fw.gTQ (d := 81) rfl rfl ?_
  refine Fw.q (Fw.val_fieldAddr fl43_3 rfl rfl) rfl ?_
  refine Fw.gTQ (d := 81) rfl rfl ?_
  refine Fw.ldQ sc2 rfl (Hl.cell 3) rfl ?_
  refine Fw.gTQ (d := 81) rfl rfl ?_
  refine Fw.q (Fw.Val.F (Fw.val_bin rfl rfl Fw.b_neq) (by omega)) rfl ?_
  refine Fw.gTQ (d := 77) rfl rfl ?_
  refine Fw.q (Fw.val_pickF rfl rfl) rfl ?_
  refine Fw.gTQ (d := 73) rfl rfl ?_
  refine Fw.q (Fw.val_pickT rfl rfl) rfl ?_
  refine Fw.q (Fw.val_pickF rfl rfl) rfl ?_
  refine Fw.q (Fw.val_move rfl) rfl ?_
  refine Fw.gTQ (d := 90) rfl rfl ?_
  refine Fw.q (Fw.val_move rfl) rfl ?_
  refine Fw.gTQ (d := 90) rfl rfl ?_
  refine Fw.callQ cf16 rfl rfl (fun w_ hb_ => agIncident_any _ p pf pg N E u (a1) (HAg.low hb_)) (fun _ _ _ h => ⟨h.1, h.2 ▸ Below.refl _ _⟩) ?_
  refine Fw.gTQ (d := 90) rfl rfl ?_
  refine Fw.q (Fw.Val.T (Fw.val_bin rfl rfl Fw.b_neq) (by omega)) rfl ?_
  refine Fw.gTQ (d := 90) rfl rfl ?_
  refine Fw.q (Fw.val_move rfl) rfl ?_
  refine Fw.gTQ (d := 90) rfl rfl ?_
  refine Fw.callQ cf14 rfl rfl (fun w_ hb_ => agState_any _ p pf pg N E u (a1) (HAg.low hb_)) (fun _ _ _ h => ⟨h.1, h.2 ▸ Below.refl _ _⟩) ?_
  refine Fw.gTQ (d := 90) rfl rfl ?_
  refine Fw.q (Fw.Val.T (Fw.val_bin rfl rfl Fw.b_geq) (by omega)) rfl ?_
  refine Fw.gTQ (d := 90) rfl rfl ?_
  refine Fw.q (Fw.val_move rfl) rfl ?_
  refine Fw.gTQ (d := 97) rfl rfl ?_
  refine Fw.q (Fw.val_move rfl) rfl ?_
  refine Fw.gTQ (d := 97) rfl rfl ?_
  refine Fw.callQ cf14 rfl rfl (fun w_ hb_ => agState_any _ p pf pg N E u (a1) (HAg.low hb_)) (fun _ _ _ h => ⟨h.1, h.2 ▸ Below.refl _ _⟩) ?_
  refine Fw.gTQ (d := 97) rfl rfl ?_
  refine Fw.q (Fw.Val.T (Fw.val_bin rfl rfl Fw.b_leq) (by omega)) rfl ?_
  refine Fw.gTQ (d := 90) rfl rfl ?_
  refine Fw.q (Fw.val_pickT rfl rfl) rfl ?_
  refine Fw.gTQ (d := 90) rfl rfl ?_
  refine Fw.q (Fw.Val.F (Fw.val_bin rfl rfl (Fw.b_neqB Try.underlying4)) (by decide)) rfl ?_
  refine Fw.q (Fw.val_pickF rfl rfl) rfl ?_
  refine Fw.nilQ ?_
  intro w12 hb
  replace HAg := HAg.low hb
  replace HRa := HRa.low hb
  replace Hl := Hl.low hb
  replace HB := HB.trans (hb.mono HB.size)
  clear hb
  refine hK21 _ _ (Fw.FC.sub (f' := [(103, _), (102, _), (101, _), (100, _), (99, _), (98, _), (97, _), (96, _), (95, _), (94, _), (93, _), (92, _), (91, _), (88, _), (87, _), (86, _), (85, _), (84, _), (83, _), (82, _), (81, _), (80, _), (79, _), (78, _), (77, _), (76, _), (75, _), (74, _), (71, _), (70, _), (69, _), (68, _), (67, _), (5, _), (6, _), (8, _), (35, _), (36, _), (37, _)]) (.cons rfl (.cons rfl (.cons rfl (.cons rfl (.cons rfl (.cons rfl (.cons rfl (.cons rfl (.cons rfl (.cons rfl (.cons rfl (.cons rfl (.cons rfl (.cons rfl (.cons rfl (.cons rfl (.cons rfl (.cons rfl (.cons rfl (.cons rfl (.cons rfl (.cons rfl (.cons rfl (.cons rfl (.cons rfl (.cons rfl (.cons rfl (.cons rfl (.cons rfl (.cons rfl (.cons rfl (.cons rfl (.cons rfl (.cons rfl (.cons rfl (.cons rfl (.cons rfl (.cons rfl (.cons rfl .nil))))))))))))))))))))))))))))))))))))))) ?_)
  refine Fw.condF rfl ?_
  refine Fw.skip ?_
  refine Fw.X_blockN ?_
  refine hK16 _ _ ?_
  refine Fw.region ?_
  refine Fw.s (Fw.val_bin rfl rfl (Fw.b_add (Fw.i64_ok (by omega)))) rfl ?_
  refine Fw.s (Fw.val_move rfl) rfl ?_
  refine Fw.nil ?_
  refine Fw.roundEnd _ _ (by omega) ⟨k + 1, a1, _, _, rfl, by omega, hga1, hsa1, HAg, HRa, Hl, HB, rfl⟩ (.cons rfl (.cons rfl (.cons rfl (.cons rfl (.cons rfl (.cons rfl .nil))))))
  rintro hi0
  refine Fw.gTQ (d := 73) rfl rfl ?_
  refine Fw.q (Fw.val_move rfl) rfl ?_
  refine Fw.gFQ (d := 77) rfl rfl rfl rfl ?_
  refine Fw.gFQ (d := 77) rfl rfl rfl rfl ?_
  refine Fw.gFQ (d := 77) rfl rfl rfl rfl ?_
  refine Fw.gFQ (d := 77) rfl rfl rfl rfl ?_
  refine Fw.gUQ (d := 81) rfl rfl rfl ?_
  refine Fw.gUQ (d := 81) rfl rfl rfl ?_
  refine Fw.gUQ (d := 81) rfl rfl rfl ?_
  refine Fw.gUQ (d := 81) rfl rfl rfl ?_
  refine Fw.gUQ (d := 81) rfl rfl rfl ?_
  refine Fw.gFQ (d := 77) rfl rfl rfl rfl ?_
  refine Fw.gTQ (d := 73) rfl rfl ?_
  refine Fw.q (Fw.val_pickF rfl rfl) rfl ?_
  refine Fw.q (Fw.val_pickF rfl rfl) rfl ?_
  refine Fw.q (Fw.val_move rfl) rfl ?_
  refine Fw.gTQ (d := 90) rfl rfl ?_
  refine Fw.q (Fw.val_move rfl) rfl ?_
  refine Fw.gTQ (d := 90) rfl rfl ?_
  refine Fw.callQ cf16 rfl rfl (fun w_ hb_ => agIncident_any _ p pf pg N E u (a1) (HAg.low hb_)) (fun _ _ _ h => ⟨h.1, h.2 ▸ Below.refl _ _⟩) ?_
  refine Fw.gTQ (d := 90) rfl rfl ?_
  refine Fw.q (Fw.Val.F (Fw.val_bin rfl rfl Fw.b_neq) (by omega)) rfl ?_
  refine Fw.gTQ (d := 90) rfl rfl ?_
  refine Fw.q (Fw.val_move rfl) rfl ?_
  refine Fw.gTQ (d := 90) rfl rfl ?_
  refine Fw.callQ cf14 rfl rfl (fun w_ hb_ => agState_any _ p pf pg N E u (a1) (HAg.low hb_)) (fun _ _ _ h => ⟨h.1, h.2 ▸ Below.refl _ _⟩) ?_
  refine Fw.gTQ (d := 90) rfl rfl ?_
  refine Fw.q2 (Fw.val_bin rfl rfl Fw.b_geq) rfl ?_ ?_
  rintro h3s
  refine Fw.gTQ (d := 90) rfl rfl ?_
  refine Fw.q (Fw.val_move rfl) rfl ?_
  refine Fw.gTQ (d := 97) rfl rfl ?_
  refine Fw.q (Fw.val_move rfl) rfl ?_
  refine Fw.gTQ (d := 97) rfl rfl ?_
  refine Fw.callQ cf14 rfl rfl (fun w_ hb_ => agState_any _ p pf pg N E u (a1) (HAg.low hb_)) (fun _ _ _ h => ⟨h.1, h.2 ▸ Below.refl _ _⟩) ?_
  refine Fw.gTQ (d := 97) rfl rfl ?_
  refine Fw.q (Fw.Val.F (Fw.val_bin rfl rfl Fw.b_leq) (by omega)) rfl ?_
  refine Fw.gTQ (d := 90) rfl rfl ?_
  refine Fw.q (Fw.val_pickT rfl rfl) rfl ?_
  refine Fw.gTQ (d := 90) rfl rfl ?_
  refine Fw.q (Fw.Val.F (Fw.val_bin rfl rfl (Fw.b_neqB Try.underlying4)) (by decide)) rfl ?_
  refine Fw.q (Fw.val_pickF rfl rfl) rfl ?_
  refine Fw.nilQ ?_
  intro w13 hb
  replace HAg := HAg.low hb
  replace HRa := HRa.low hb
  replace Hl := Hl.low hb
  replace HB := HB.trans (hb.mono HB.size)
  clear hb
  refine hK21 _ _ (Fw.FC.sub (f' := [(103, _), (102, _), (101, _), (100, _), (99, _), (98, _), (97, _), (96, _), (95, _), (94, _), (93, _), (92, _), (91, _), (88, _), (87, _), (86, _), (85, _), (84, _), (83, _), (82, _), (81, _), (80, _), (79, _), (78, _), (77, _), (76, _), (75, _), (74, _), (71, _), (70, _), (69, _), (68, _), (67, _), (5, _), (6, _), (8, _), (35, _), (36, _), (37, _)]) (.cons rfl (.cons rfl (.cons rfl (.cons rfl (.cons rfl (.cons rfl (.cons rfl (.cons rfl (.cons rfl (.cons rfl (.cons rfl (.cons rfl (.cons rfl (.cons rfl (.cons rfl (.cons rfl (.cons rfl (.cons rfl (.cons rfl (.cons rfl (.cons rfl (.cons rfl (.cons rfl (.cons rfl (.cons rfl (.cons rfl (.cons rfl (.cons rfl (.cons rfl (.cons rfl (.cons rfl (.cons rfl (.cons rfl (.cons rfl (.cons rfl (.cons rfl (.cons rfl (.cons rfl (.cons rfl .nil))))))))))))))))))))))))))))))))))))))) ?_)
  refine Fw.condF rfl ?_
  refine Fw.skip ?_
  refine Fw.X_blockN ?_
  refine hK16 _ _ ?_
  refine Fw.region ?_
  refine Fw.s (Fw.val_bin rfl rfl (Fw.b_add (Fw.i64_ok (by omega)))) rfl ?_
  refine Fw.s (Fw.val_move rfl) rfl ?_
  refine Fw.nil ?_
  refine Fw.roundEnd _ _ (by omega) ⟨k + 1, a1, _, _, rfl, by omega, hga1, hsa1, HAg, HRa, Hl, HB, rfl⟩ (.cons rfl (.cons rfl (.cons rfl (.cons rfl (.cons rfl (.cons rfl .nil))))))
  rintro h3s
  refine Fw.gTQ (d := 90) rfl rfl ?_
  refine Fw.q (Fw.val_move rfl) rfl ?_
  refine Fw.gFQ (d := 97) rfl rfl rfl rfl ?_
  refine Fw.gFQ (d := 97) rfl rfl rfl rfl ?_
  refine Fw.gFQ (d := 97) rfl rfl rfl rfl ?_
  refine Fw.gTQ (d := 90) rfl rfl ?_
  refine Fw.q (Fw.val_pickF rfl rfl) rfl ?_
  refine Fw.gTQ (d := 90) rfl rfl ?_
  refine Fw.q (Fw.Val.F (Fw.val_bin rfl rfl (Fw.b_neqB Try.underlying4)) (by decide)) rfl ?_
  refine Fw.q (Fw.val_pickF rfl rfl) rfl ?_
  refine Fw.nilQ ?_
  intro w14 hb
  replace HAg := HAg.low hb
  replace HRa := HRa.low hb
  replace Hl := Hl.low hb
  replace HB := HB.trans (hb.mono HB.size)
  clear hb
  refine hK21 _ _ (Fw.FC.sub (f' := [(103, _), (102, _), (101, _), (100, _), (99, _), (98, _), (97, _), (96, _), (95, _), (94, _), (93, _), (92, _), (91, _), (88, _), (87, _), (86, _), (85, _), (84, _), (83, _), (82, _), (81, _), (80, _), (79, _), (78, _), (77, _), (76, _), (75, _), (74, _), (71, _), (70, _), (69, _), (68, _), (67, _), (5, _), (6, _), (8, _), (35, _), (36, _), (37, _)]) (.cons rfl (.cons rfl (.cons rfl (.cons rfl (.cons rfl (.cons rfl (.cons rfl (.cons rfl (.cons rfl (.cons rfl (.cons rfl (.cons rfl (.cons rfl (.cons rfl (.cons rfl (.cons rfl (.cons rfl (.cons rfl (.cons rfl (.cons rfl (.cons rfl (.cons rfl (.cons rfl (.cons rfl (.cons rfl (.cons rfl (.cons rfl (.cons rfl (.cons rfl (.cons rfl (.cons rfl (.cons rfl (.cons rfl (.cons rfl (.cons rfl (.cons rfl (.cons rfl (.cons rfl (.cons rfl .nil))))))))))))))))))))))))))))))))))))))) ?_)
  refine Fw.condF rfl ?_
  refine Fw.skip ?_
  refine Fw.X_blockN ?_
  refine hK16 _ _ ?_
  refine Fw.region ?_
  refine Fw.s (Fw.val_bin rfl rfl (Fw.b_add (Fw.i64_ok (by omega)))) rfl ?_
  refine Fw.s (Fw.val_move rfl) rfl ?_
  refine Fw.nil ?_
  refine Fw.roundEnd _ _ (by omega) ⟨k + 1, a1, _, _, rfl, by omega, hga1, hsa1, HAg, HRa, Hl, HB, rfl⟩ (.cons rfl (.cons rfl (.cons rfl (.cons rfl (.cons rfl (.cons rfl .nil))))))
  refine Fw.seq fun _ hK24 => ?_
  refine Fw.region ?_
  refine Fw.s (Fw.val_fieldAddr fl65_0 rfl rfl) rfl ?_
  refine Fw.ld sc3 rfl (Hy.cell 0) rfl ?_
  refine Fw.s2 (Fw.val_bin rfl rfl Fw.b_eql) rfl ?_ ?_
  rintro hk1
  refine Fw.nil ?_
  refine hK24 _ _ (Fw.FC.sub (f' := [(45, _), (11, _), (10, _), (37, _), (36, _), (35, _), (8, _), (6, _), (5, _)]) (.cons rfl (.cons rfl (.cons rfl (.cons rfl (.cons rfl (.cons rfl (.cons rfl (.cons rfl (.cons rfl .nil))))))))) ?_)
  refine Fw.condT rfl ?_
  refine Fw.seq fun _ hK26 => ?_
  refine Fw.region ?_
  refine Fw.s (Fw.val_move rfl) rfl ?_
  refine Fw.s (Fw.val_fieldAddr fl65_3 rfl rfl) rfl ?_
  refine Fw.ldA ag43 rfl (Fw.rdPart (Fw.rdBlk Hy) 3 5) rfl rfl ?_
  refine Fw.s (Fw.val_fieldAddr fl65_1 rfl rfl) rfl ?_
  refine Fw.ld sc2 rfl (Hy.cell 1) rfl ?_
  refine Fw.call cf19 rfl rfl (receive_any _ p pf pg N E u b HAg hgb l[k].o l[k].t) ?_
  rintro e_ w15 ⟨rfl, H2, hc⟩
  refine ⟨_, rfl, ?_⟩
  have e1_ : Ag.recv N E u b l[k].o l[k].t = Ag.act N E u b l[k] := (if_pos hk1).symm
  rw [e1_] at H2
  have hc2 : Chg (fun k => k = p ∨ k = pf) w10 w15 := hc
  clear hc
  replace HRa := HRa.other HAg hc2 (by omega) (by omega)
  replace Hl := Hl.chg hc2 (by omega)
  replace Hy := Hy.chg hc2 (by omega)
  replace HB := HB.trans (hc2.below (B := w.heap.size) (fun k e => by omega) HB.size)
  clear hc2 HAg
  have HAg := H2
  clear H2
  refine Fw.s (Fw.val_move rfl) rfl ?_
  refine Fw.s (Fw.val_extract rfl rfl) rfl ?_
  refine Fw.s (Fw.val_extract rfl rfl) rfl ?_
  refine Fw.s (Fw.val_assign rfl) rfl ?_
  refine Fw.s (Fw.val_assign rfl) rfl ?_
  refine Fw.nil ?_
  refine hK26 _ _ (Fw.FC.sub (f' := [(12, _), (11, _), (10, _), (37, _), (36, _), (35, _), (8, _), (6, _), (5, _)]) (.cons rfl (.cons rfl (.cons rfl (.cons rfl (.cons rfl (.cons rfl (.cons rfl (.cons rfl (.cons rfl .nil))))))))) ?_)
  refine Fw.seq fun _ hK27 => ?_
  refine Fw.region ?_
  refine Fw.s (Fw.val_move rfl) rfl ?_
  refine Fw.b2 ?_ ?_
  rintro hrb
  refine Fw.nil ?_
  refine hK27 _ _ ?_
  refine Fw.condT rfl ?_
  refine Fw.region ?_
  refine Fw.s (Fw.val_fieldAddr fl65_3 rfl rfl) rfl ?_
  refine Fw.ldA ag43 rfl (Fw.rdPart (Fw.rdBlk Hy) 3 5) rfl rfl ?_
  refine Fw.storeW sz43 rfl rfl Hl rfl rfl (by exact Fw.oneCells rfl) ?_
  intro w16 N_ hc
  replace HAg := HAg.over hc ((Fw.Kp.refl [43] _).one hc Hl rfl) (by omega) (by omega) rfl rfl rfl rfl
  replace HRa := HRa.over hc ((Fw.Kp.refl [43] _).one hc Hl rfl) (by omega) (fun k e => by omega) rfl
  replace Hy := Hy.chg hc (by omega)
  replace HB := HB.trans (hc.below (B := w.heap.size) (fun k e => by omega) HB.size)
  clear hc
  clear Hl
  have Hl := N_
  clear N_
  replace Hl : Blk w16 gl 43 #[.int .i64 l[k].o.u, .int .i64 l[k].o.e, .int .i64 l[k].o.k, .int .i64 l[k].o.i, .int .i64 l[k].o.n] := Hl
  refine Fw.nil ?_
  have hf1 : (Ag.act N E u b l[k]).f.o = l[k].o := by rw [Ag.act_f hgb, if_pos ⟨hk1, hrb⟩]
  rw [← hf1] at Hl
  exact hK20 _ _ ⟨mn, mg⟩ ⟨HAg, HRa, Hl, HB⟩ (.cons rfl (.cons rfl (.cons rfl (.cons rfl (.cons rfl (.cons rfl (.cons rfl .nil)))))))
  rintro hrb
  refine Fw.nil ?_
  refine hK27 _ _ ?_
  refine Fw.condF rfl ?_
  refine Fw.skip ?_
  have hf1 : (Ag.act N E u b l[k]).f.o = b.f.o := by rw [Ag.act_f hgb, if_neg (fun q => by rw [hrb] at q; exact absurd q.2 (by decide))]
  rw [← hf1] at Hl
  exact hK20 _ _ ⟨mn, mg⟩ ⟨HAg, HRa, Hl, HB⟩ (.cons rfl (.cons rfl (.cons rfl (.cons rfl (.cons rfl (.cons rfl (.cons rfl .nil)))))))
  rintro hk1
  refine Fw.nil ?_
  refine hK24 _ _ (Fw.FC.sub (f' := [(45, _), (11, _), (10, _), (37, _), (36, _), (35, _), (8, _), (6, _), (5, _)]) (.cons rfl (.cons rfl (.cons rfl (.cons rfl (.cons rfl (.cons rfl (.cons rfl (.cons rfl (.cons rfl .nil))))))))) ?_)
  refine Fw.condF rfl ?_
  refine Fw.region ?_
  refine Fw.s (Fw.val_move rfl) rfl ?_
  refine Fw.s (Fw.val_move rfl) rfl ?_
  refine Fw.ldA ag65 rfl (Fw.rdBlk Hy) rfl rfl ?_
  refine Fw.call cf22 rfl rfl (do_any _ p pf pg N E u b w.heap.size q Ae ce mn mg l[k] HAg hgb HRa (by omega) (by omega)) ?_
  rintro e_ w17 ⟨bd, rfl, H2, H3, hc⟩
  refine ⟨_, rfl, ?_⟩
  replace Hl := Hl.chg hc (by omega)
  replace Hy := Hy.chg hc (by omega)
  replace HB := HB.trans (hc.below (B := w.heap.size) (fun k e => by omega) HB.size)
  clear hc HAg HRa
  have HAg := H2
  have HRa := H3
  clear H2 H3
  refine Fw.nil ?_
  have hf1 : (Ag.act N E u b l[k]).f.o = b.f.o := by rw [Ag.act_f hgb, if_neg (fun q => hk1 q.1)]
  rw [← hf1] at Hl
  exact hK20 _ _ ⟨_, _⟩ ⟨HAg, HRa, Hl, HB⟩ (.cons rfl (.cons rfl (.cons rfl (.cons rfl (.cons rfl (.cons rfl (.cons rfl .nil)))))))
  rintro hlt
  refine Fw.nil ?_
  refine hK13 _ _ ?_
  refine Fw.seq fun _ hK28 => ?_
  refine Fw.condF rfl ?_
  refine Fw.exit ?_
  refine Fw.X_exit ?_
  refine Fw.X_exit ?_
  refine Fw.X_block ?_
  refine hK10 _ _ (Fw.FC.sub (f' := []) .nil ?_)
  refine Fw.seq fun _ hK29 => ?_
  refine Fw.region ?_
  refine Fw.s (Fw.val_assign rfl) rfl ?_
  refine Fw.nil ?_
  refine hK29 _ _ ?_
  refine Fw.ret ?_
  refine Fw.ret_ [.tmp 4] [_] Try.results6 (.tmp rfl .nil) ?_
  exact ⟨rfl, HB⟩
  refine Fw.calls Try.func6 rfl Try.ntmps6 rfl ?_
  have HB := Below.refl (w.heap.size) w
  refine Fw.seq fun _ hK1 => ?_
  refine Fw.region ?_
  refine Fw.box rfl rfl ?_
  intro w1 gx egx Hx hb
  have lgx : w.heap.size ≤ gx := by have := HB.size; omega
  replace HB := HB.trans (hb.mono HB.size)
  clear hb
  clear egx
  refine Fw.s (Fw.val_assign rfl) rfl ?_
  refine Fw.nil ?_
  refine hK1 _ _ ?_
  refine Fw.seq fun _ hK2 => ?_
  refine Fw.region ?_
  refine Fw.ldA ag26 rfl (Fw.rdBlk Hx) rfl rfl ?_
  refine Fw.call cf21 rfl rfl (both_no _ N R Ae ce (hR.low HB) u v hm) ?_
  rintro e_ w2 ⟨q, rfl, hb⟩
  refine ⟨_, rfl, ?_⟩
  replace Hx := Hx.low hb
  replace HB := HB.trans (hb.mono HB.size)
  clear hb
  refine Fw.s (Fw.val_move rfl) rfl ?_
  refine Fw.s (Fw.val_extract rfl rfl) rfl ?_
  refine Fw.s (Fw.val_extract rfl rfl) rfl ?_
  refine Fw.s (Fw.val_extract rfl rfl) rfl ?_
  refine Fw.s (Fw.val_assign rfl) rfl ?_
  refine Fw.s (Fw.val_assign rfl) rfl ?_
  refine Fw.s (Fw.val_assign rfl) rfl ?_
  refine Fw.nil ?_
  refine hK2 _ _ (Fw.FC.sub (f' := [(7, _), (6, _), (5, _), (1, _)]) (.cons rfl (.cons rfl (.cons rfl (.cons rfl .nil)))) ?_)
  refine Fw.seq fun _ hK3 => ?_
  refine Fw.seq fun _ hK4 => ?_
  refine Fw.region ?_
  refine Fw.call cf9 rfl rfl (awake29_any _) ?_
  rintro e_ w3 ⟨rfl, hb⟩
  refine ⟨_, rfl, ?_⟩
  replace Hx := Hx.low hb
  replace HB := HB.trans (hb.mono HB.size)
  clear hb
  refine Fw.s (Fw.val_not rfl) rfl ?_
  refine Fw.s (Fw.val_move rfl) rfl ?_
  refine Fw.gT (d := 22) rfl rfl ?_
  refine Fw.s (Fw.val_move rfl) rfl ?_
  refine Fw.gT (d := 22) rfl rfl ?_
  refine Fw.s (Fw.val_not rfl) rfl ?_
  refine Fw.s (Fw.val_pickF rfl rfl) rfl ?_
  refine Fw.s (Fw.val_move rfl) rfl ?_
  refine Fw.gF (d := 26) rfl rfl rfl rfl ?_
  refine Fw.gF (d := 26) rfl rfl rfl rfl ?_
  refine Fw.gF (d := 26) rfl rfl rfl rfl ?_
  refine Fw.s (Fw.val_pickT rfl rfl) rfl ?_
  refine Fw.nil ?_
  refine hK4 _ _ (Fw.FC.sub (f' := [(30, _), (6, _), (5, _), (1, _)]) (.cons rfl (.cons rfl (.cons rfl (.cons rfl .nil)))) ?_)
  refine Fw.condT rfl ?_
  refine Fw.seq fun _ hK5 => ?_
  refine Fw.region ?_
  refine Fw.call cf9 rfl rfl (awake29_any _) ?_
  rintro e_ w4 ⟨rfl, hb⟩
  refine ⟨_, rfl, ?_⟩
  replace Hx := Hx.low hb
  replace HB := HB.trans (hb.mono HB.size)
  clear hb
  refine Fw.s (Fw.val_assign rfl) rfl ?_
  refine Fw.nil ?_
  refine hK5 _ _ ?_
  refine Fw.ret ?_
  refine Fw.X_ret ?_
  refine Fw.ret_ [.tmp 4] [_] Try.results6 (.tmp rfl .nil) ?_
  exact ⟨rfl, HB⟩

set_option maxRecDepth 100000 in
set_option maxHeartbeats 4000000 in
theorem lreports_any (w : World) (N : Int) (R : List Rg.Re) (Ae : Option Addr) (ce : Nat) (hR : Rd w Ae (R.flatMap Rg.Re.cells)) (u v : Int) (Al : Option Addr) (l : List Ag.Act) (cl : Nat) (hL : Rd w Al (l.flatMap Ag.Act.cells)) (g : Int) : Calls Try.prog 7 #[.agg #[.int .i64 u, .int .i64 v, .int .i64 N, .slice Ae R.length ce], .slice Al l.length cl, .int .i64 g] w fun e_ w' => e_ = .returned (.bool true) ∧ Below w.heap.size w w' := by
  by_cases hm : MadeOk u v N R
  obtain ⟨hr, hu, hv⟩ := hm
  obtain ⟨N, E, rfl, rfl, hn⟩ := Rg.right_net hr
  rw [Rg.re_cells] at hR
  rw [List.length_map]
  have hgA : Ag.Good N E u (Ag.new u v.toNat) := Ag.Good.new hn (by omega)
  refine Fw.calls Try.func7 rfl Try.ntmps7 rfl ?_
  have HB := Below.refl (w.heap.size) w
  refine Fw.seq fun _ hK1 => ?_
  refine Fw.region ?_
  refine Fw.box rfl rfl ?_
  intro w1 gx egx Hx hb
  have lw_gx : w.heap.size ≤ gx := by have := HB.size; omega
  have lgx : w.heap.size ≤ gx := by have := HB.size; omega
  replace HB := HB.trans (hb.mono HB.size)
  clear hb
  clear egx
  refine Fw.s (Fw.val_assign rfl) rfl ?_
  refine Fw.nil ?_
  refine hK1 _ _ ?_
  refine Fw.seq fun _ hK2 => ?_
  refine Fw.region ?_
  refine Fw.ldA ag26 rfl (Fw.rdBlk Hx) rfl rfl ?_
  refine Fw.call cf21 rfl rfl (both_yes _ N E Ae ce (hR.low HB) hn u v hu hv) ?_
  rintro e_ w2 ⟨p, pf, pg, q, rfl, hp, hpf, HAg, HRa, hb⟩
  refine ⟨_, rfl, ?_⟩
  have hz1 := HB.size
  have hgx := Hx.lt
  replace Hx := Hx.low hb
  replace HB := HB.trans (hb.mono HB.size)
  clear hb
  have hBq0 := HRa.1
  replace HRa := HRa.lower (B := w.heap.size) (by have := HRa.1; omega) ⟨HB.size, w, Nat.le_refl _, hR, HB⟩
  have hl2 := HRa.lt
  have hl1 := HAg.lt
  refine Fw.s (Fw.val_move rfl) rfl ?_
  refine Fw.s (Fw.val_extract rfl rfl) rfl ?_
  refine Fw.s (Fw.val_extract rfl rfl) rfl ?_
  refine Fw.s (Fw.val_extract rfl rfl) rfl ?_
  refine Fw.s (Fw.val_assign rfl) rfl ?_
  refine Fw.s (Fw.val_assign rfl) rfl ?_
  refine Fw.s (Fw.val_assign rfl) rfl ?_
  refine Fw.nil ?_
  refine hK2 _ _ (Fw.FC.sub (f' := [(9, _), (8, _), (7, _), (3, _), (1, _), (2, _)]) (.cons rfl (.cons rfl (.cons rfl (.cons rfl (.cons rfl (.cons rfl .nil)))))) ?_)
  refine Fw.seq fun _ hK3 => ?_
  refine Fw.seq fun _ hK4 => ?_
  refine Fw.region ?_
  refine Fw.call cf9 rfl rfl (awake29_any _) ?_
  rintro e_ w3 ⟨rfl, hb⟩
  refine ⟨_, rfl, ?_⟩
  replace Hx := Hx.low hb
  replace HAg := HAg.low hb
  replace HRa := HRa.low hb
  replace HB := HB.trans (hb.mono HB.size)
  clear hb
  refine Fw.s (Fw.val_not rfl) rfl ?_
  refine Fw.s (Fw.val_move rfl) rfl ?_
  refine Fw.gT (d := 23) rfl rfl ?_
  refine Fw.s (Fw.val_move rfl) rfl ?_
  refine Fw.gT (d := 23) rfl rfl ?_
  refine Fw.s (Fw.val_not rfl) rfl ?_
  refine Fw.s (Fw.val_pickF rfl rfl) rfl ?_
  refine Fw.s (Fw.val_move rfl) rfl ?_
  refine Fw.gT (d := 27) rfl rfl ?_
  refine Fw.s (Fw.val_move rfl) rfl ?_
  refine Fw.gT (d := 27) rfl rfl ?_
  refine Fw.s (Fw.val_len Try.underlying38 rfl) rfl ?_
  refine Fw.gT (d := 27) rfl rfl ?_
  refine Fw.s2 (Fw.val_bin rfl rfl Fw.b_gtr) rfl ?_ ?_
  rintro h40
  refine Fw.s (Fw.val_pickF rfl rfl) rfl ?_
  refine Fw.nil ?_
  refine hK4 _ _ (Fw.FC.sub (f' := [(31, _), (8, _), (7, _), (3, _), (1, _), (2, _)]) (.cons rfl (.cons rfl (.cons rfl (.cons rfl (.cons rfl (.cons rfl .nil)))))) ?_)
  refine Fw.condT rfl ?_
  refine Fw.seq fun _ hK6 => ?_
  refine Fw.region ?_
  refine Fw.call cf9 rfl rfl (awake29_any _) ?_
  rintro e_ w4 ⟨rfl, hb⟩
  refine ⟨_, rfl, ?_⟩
  replace Hx := Hx.low hb
  replace HAg := HAg.low hb
  replace HRa := HRa.low hb
  replace HB := HB.trans (hb.mono HB.size)
  clear hb
  refine Fw.s (Fw.val_assign rfl) rfl ?_
  refine Fw.nil ?_
  refine hK6 _ _ (Fw.FC.sub (f' := [(6, _)]) (.cons rfl .nil) ?_)
  refine Fw.ret ?_
  refine Fw.X_ret ?_
  refine Fw.ret_ [.tmp 6] [_] Try.results7 (.tmp rfl .nil) ?_
  exact ⟨rfl, HB⟩
  rintro h40
  refine Fw.s (Fw.val_pickF rfl rfl) rfl ?_
  refine Fw.nil ?_
  refine hK4 _ _ (Fw.FC.sub (f' := [(31, _), (8, _), (7, _), (3, _), (1, _), (2, _)]) (.cons rfl (.cons rfl (.cons rfl (.cons rfl (.cons rfl (.cons rfl .nil)))))) ?_)
  refine Fw.condF rfl ?_
  refine Fw.skip ?_
  refine hK3 _ _ ?_
  refine Fw.seq fun _ hK7 => ?_
  refine Fw.seq fun _ hK8 => ?_
  refine Fw.region ?_
  refine Fw.s (Fw.val_move rfl) rfl ?_
  refine Fw.s (Fw.val_bin rfl rfl (Fw.b_nilP Try.underlying33)) rfl ?_
  refine Fw.nil ?_
  refine hK8 _ _ ?_
  refine Fw.condF rfl ?_
  refine Fw.skip ?_
  refine hK7 _ _ ?_
  refine Fw.seq fun _ hK9 => ?_
  refine Fw.region ?_
  refine Fw.s (Fw.val_build (ps := []) rfl (bu48_)) rfl ?_
  refine Fw.alloc ze48 rfl ?_
  intro w5 gl egl Hl hb
  have n_gx_gl : gx < gl := by have := Hx.lt; omega
  have na_HAg_gl : p < gl ∧ pf < gl := by have := HAg.lt; omega
  have na_HRa_gl : q < gl := by have := HRa.lt; omega
  have lw_gl : w.heap.size ≤ gl := by have := HB.size; omega
  have lgl : w.heap.size ≤ gl := by have := HB.size; omega
  replace Hx := Hx.low hb
  replace HAg := HAg.low hb
  replace HRa := HRa.low hb
  replace HB := HB.trans (hb.mono HB.size)
  clear hb
  clear egl
  refine Fw.storeW sz48 rfl rfl Hl rfl rfl (by exact Fw.oneCells rfl) ?_
  intro w6 N_ hc
  replace Hx := Hx.chg hc (by omega)
  replace HAg := HAg.over hc ((Fw.Kp.refl [48] _).one hc Hl rfl) (by omega) (by omega) rfl rfl rfl rfl
  replace HRa := HRa.over hc ((Fw.Kp.refl [48] _).one hc Hl rfl) (by omega) (fun k e => by omega) rfl
  replace HB := HB.trans (hc.below (B := w.heap.size) (fun k e => by omega) HB.size)
  clear hc
  clear Hl
  have Hl := N_
  clear N_
  replace Hl : Blk w6 gl 48 #[.int .i64 0, .int .i64 0, .int .i64 0, .int .i64 0, .int .i64 0] := Hl
  refine Fw.nil ?_
  refine hK9 _ _ ?_
  refine Fw.seq fun _ hK10 => ?_
  refine Fw.seq fun _ hK11 => ?_
  refine Fw.region ?_
  refine Fw.s (Fw.val_move rfl) rfl ?_
  refine Fw.s (Fw.val_len Try.underlying38 rfl) rfl ?_
  refine Fw.s (Fw.val_move rfl) rfl ?_
  refine Fw.nil ?_
  refine hK11 _ _ ?_
  refine Fw.block ?_
  refine Fw.loop (fun m_ f_ W_ => ∃ (k : Nat) (b : Ag) (mn : Int) (mg : Or.F), m_ = l.length - k ∧ k ≤ l.length ∧ Ag.Good N E u b ∧ (0 ≤ b.l.q ∧ b.l.q ≤ k) ∧ Blk W_ gx 26 #[.int .i64 u, .int .i64 v, .int .i64 (N : Int), .slice Ae E.length ce] ∧ AgAt W_ p pf pg N E u b ∧ RaAt W_ w.heap.size q N E u Ae ce mn mg ∧ Blk W_ gl 48 #[.int .i64 b.l.u, .int .i64 b.l.q, .int .i64 b.l.s, .int .i64 b.l.n, .int .i64 b.l.e] ∧ Below (w.heap.size) w W_ ∧ f_ = [(38, .int .i64 k), (37, .int .i64 l.length), (36, .slice Al l.length cl), (10, .pointer (some ⟨gl, 0, none⟩)), (8, .pointer (some ⟨q, 0, none⟩)), (7, .pointer (some ⟨p, 0, none⟩)), (3, .pointer (some ⟨gx, 0, none⟩)), (2, .int .i64 g)]) ⟨_, _, ⟨0, Ag.new u v.toNat, _, _, rfl, Nat.zero_le _, hgA, ⟨Int.le_refl _, Int.le_refl _⟩, Hx, HAg, HRa, Hl, HB, rfl⟩, (.cons rfl (.cons rfl (.cons rfl (.cons rfl (.cons rfl (.cons rfl (.cons rfl (.cons rfl .nil))))))))⟩ ?_
  clear Hx HAg HRa Hl HB
  rintro m12_ _ w7 ⟨k, b, mn, mg, hm12_, hkl, hgb, hqb, Hx, HAg, HRa, Hl, HB, rfl⟩
  refine Fw.seq fun _ hK13 => ?_
  refine Fw.region ?_
  refine Fw.s2 (Fw.val_bin rfl rfl Fw.b_lss) rfl ?_ ?_
  rintro hlt
  refine Fw.nil ?_
  refine hK13 _ _ ?_
  refine Fw.seq fun _ hK15 => ?_
  refine Fw.condT rfl ?_
  refine Fw.skip ?_
  refine hK15 _ _ ?_
  refine Fw.seq fun _ hK16 => ?_
  refine Fw.block ?_
  refine Fw.seq fun _ hK17 => ?_
  have hk : k < l.length := by omega
  obtain ⟨ad, b_, o_, hA, hadd, HLe⟩ := Fw.rdAt Ag.Act.len (by decide) hL k hk
  have hl1k := HAg.lt
  have hl2k := HRa.lt
  have hglk := Hl.lt
  refine Fw.region ?_
  refine Fw.s (Fw.val_indexR Try.underlying38 sz65 rfl hA rfl rfl hk hadd) rfl ?_
  refine Fw.ldA ag65 rfl ((HLe.low HB)) rfl rfl ?_
  refine Fw.alloc ze65 rfl ?_
  intro w8 gy egy Hy hb
  have n_gx_gy : gx < gy := by have := Hx.lt; omega
  have n_gl_gy : gl < gy := by have := Hl.lt; omega
  have na_HAg_gy : p < gy ∧ pf < gy := by have := HAg.lt; omega
  have na_HRa_gy : q < gy := by have := HRa.lt; omega
  have lw_gy : w.heap.size ≤ gy := by have := HB.size; omega
  have lgy : w.heap.size ≤ gy := by have := HB.size; omega
  replace Hx := Hx.low hb
  replace HAg := HAg.low hb
  replace HRa := HRa.low hb
  replace Hl := Hl.low hb
  replace HB := HB.trans (hb.mono HB.size)
  clear hb
  clear egy
  refine Fw.storeW sz65 rfl rfl Hy rfl rfl (by exact Fw.oneCells rfl) ?_
  intro w9 N_ hc
  replace Hx := Hx.chg hc (by omega)
  replace HAg := HAg.over hc ((Fw.Kp.refl [65] _).one hc Hy rfl) (by omega) (by omega) rfl rfl rfl rfl
  replace HRa := HRa.over hc ((Fw.Kp.refl [65] _).one hc Hy rfl) (by omega) (fun k e => by omega) rfl
  replace Hl := Hl.chg hc (by omega)
  replace HB := HB.trans (hc.below (B := w.heap.size) (fun k e => by omega) HB.size)
  clear hc
  clear Hy
  have Hy := N_
  clear N_
  replace Hy : Blk w9 gy 65 #[.int .i64 l[k].k, .int .i64 l[k].t, .int .i64 l[k].g, .int .i64 l[k].o.u, .int .i64 l[k].o.e, .int .i64 l[k].o.k, .int .i64 l[k].o.i, .int .i64 l[k].o.n] := Hy
  refine Fw.nil ?_
  refine hK17 _ _ ?_
  refine Fw.seq_cutE (α := Int) (fun x_ => match x_ with | kk => [(2, .int .i64 g), (3, .pointer (some ⟨gx, 0, none⟩)), (7, .pointer (some ⟨p, 0, none⟩)), (8, .pointer (some ⟨q, 0, none⟩)), (10, .pointer (some ⟨gl, 0, none⟩)), (12, .pointer (some ⟨gy, 0, none⟩)), (36, .slice Al l.length cl), (37, .int .i64 l.length), (38, .int .i64 k)]) (fun x_ W_ => match x_ with | kk => Blk W_ gx 26 #[.int .i64 u, .int .i64 v, .int .i64 (N : Int), .slice Ae E.length ce] ∧ Blk W_ gl 48 #[.int .i64 b.l.u, .int .i64 b.l.q, .int .i64 b.l.s, .int .i64 b.l.n, .int .i64 b.l.e] ∧ Blk W_ gy 65 #[.int .i64 kk, .int .i64 l[k].t, .int .i64 l[k].g, .int .i64 l[k].o.u, .int .i64 l[k].o.e, .int .i64 l[k].o.k, .int .i64 l[k].o.i, .int .i64 l[k].o.n] ∧ AgAt W_ p pf pg N E u b ∧ RaAt W_ w.heap.size q N E u Ae ce mn mg ∧ (kk ≠ 4) ∧ Below (w.heap.size) w W_) ?_ (fun _ hK19 => ?_)
  rintro kk w10 ⟨Hx, Hl, Hy, HAg, HRa, hkk, HB⟩
  show Fw.FC _ _ _ _ _ [(2, .int .i64 g), (3, .pointer (some ⟨gx, 0, none⟩)), (7, .pointer (some ⟨p, 0, none⟩)), (8, .pointer (some ⟨q, 0, none⟩)), (10, .pointer (some ⟨gl, 0, none⟩)), (12, .pointer (some ⟨gy, 0, none⟩)), (36, .slice Al l.length cl), (37, .int .i64 l.length), (38, .int .i64 k)] _
  refine Fw.seq fun _ hK20 => ?_
  refine Fw.region ?_
  refine Fw.s (Fw.val_move rfl) rfl ?_
  refine Fw.s (Fw.val_move rfl) rfl ?_
  refine Fw.ldA ag65 rfl (Fw.rdBlk Hy) rfl rfl ?_
  refine Fw.call cf22 rfl rfl (do_any _ p pf pg N E u b w.heap.size q Ae ce mn mg (⟨kk, l[k].t, l[k].g, l[k].o⟩ : Ag.Act) HAg hgb HRa (by omega) (by omega)) ?_
  rintro e_ w11 ⟨bd, rfl, H2, H3, hc⟩
  refine ⟨_, rfl, ?_⟩
  replace Hx := Hx.chg hc (by omega)
  replace Hl := Hl.chg hc (by omega)
  replace Hy := Hy.chg hc (by omega)
  replace HB := HB.trans (hc.below (B := w.heap.size) (fun k e => by omega) HB.size)
  clear hc HAg HRa
  have HAg := H2
  have HRa := H3
  clear H2 H3
  have hla := Ag.act_l (N := N) (E := E) (u := u) (a := b) (⟨kk, l[k].t, l[k].g, l[k].o⟩ : Ag.Act) hkk
  have hga1 := hgb.act (N := N) (E := E) (u := u) (⟨kk, l[k].t, l[k].g, l[k].o⟩ : Ag.Act)
  obtain ⟨a1, ha1⟩ : ∃ a_, a_ = Ag.act N E u b (⟨kk, l[k].t, l[k].g, l[k].o⟩ : Ag.Act) := ⟨_, rfl⟩
  rw [← ha1] at HAg hla hga1
  refine Fw.nil ?_
  refine hK20 _ _ ?_
  refine Fw.seq fun _ hK21 => ?_
  refine Fw.region ?_
  refine Fw.s (Fw.val_move rfl) rfl ?_
  refine Fw.s (Fw.val_fieldAddr fl65_1 rfl rfl) rfl ?_
  refine Fw.ld sc2 rfl (Hy.cell 1) rfl ?_
  refine Fw.s (Fw.val_move rfl) rfl ?_
  refine Fw.call cf23 rfl rfl (report_any _ p pf pg N E u a1 HAg hga1 l[k].t g) ?_
  rintro e_ w12 ⟨rfl, H2, hc⟩
  refine ⟨_, rfl, ?_⟩
  have hga2 := hga1.report l[k].t g
  have hrs := Ag.report_s E u a1 l[k].t g
  have hrl : (Ag.report E u a1 l[k].t g).l = if Ag.reportB E a1 l[k].t g = true then Ag.says u (Ag.pass E a1 l[k].t) else (Ag.pass E a1 l[k].t).l := by unfold Ag.report; split <;> rfl
  obtain ⟨a2, ha2⟩ : ∃ a_, a_ = Ag.report E u a1 l[k].t g := ⟨_, rfl⟩
  rw [← ha2] at H2 hga2 hrs hrl
  have hpl := (Ag.pass_f E a1 l[k].t).2.2
  obtain ⟨a3, ha3⟩ : ∃ a_, a_ = Ag.pass E a1 l[k].t := ⟨_, rfl⟩
  rw [← ha3] at hrs hrl hpl
  have hb3 : Ag.reportB E a1 l[k].t g = decide (Ag.changed a3 ∨ Ag.due a3 g) := by rw [ha3]; rfl
  have hla3 : a3.l = b.l := hpl.trans hla
  have hc2 : Chg (fun k => k = p ∨ k = pf) w11 w12 := Chg.wk hc (fun _ e => .inl e)
  clear hc
  replace Hx := Hx.chg hc2 (by omega)
  replace Hl := Hl.chg hc2 (by omega)
  replace Hy := Hy.chg hc2 (by omega)
  replace HRa := HRa.other HAg hc2 (by omega) (by omega)
  replace HB := HB.trans (hc2.below (B := w.heap.size) (fun k e => by omega) HB.size)
  clear hc2 HAg
  have HAg := H2
  clear H2
  refine Fw.s (Fw.val_move rfl) rfl ?_
  refine Fw.s (Fw.val_extract rfl rfl) rfl ?_
  refine Fw.s (Fw.val_extract rfl rfl) rfl ?_
  refine Fw.alloc ze48 rfl ?_
  intro w13 gs egs Hs hb
  have n_gx_gs : gx < gs := by have := Hx.lt; omega
  have n_gl_gs : gl < gs := by have := Hl.lt; omega
  have n_gy_gs : gy < gs := by have := Hy.lt; omega
  have na_HAg_gs : p < gs ∧ pf < gs := by have := HAg.lt; omega
  have na_HRa_gs : q < gs := by have := HRa.lt; omega
  have lw_gs : w.heap.size ≤ gs := by have := HB.size; omega
  have lgs : w.heap.size ≤ gs := by have := HB.size; omega
  replace Hx := Hx.low hb
  replace Hl := Hl.low hb
  replace Hy := Hy.low hb
  replace HAg := HAg.low hb
  replace HRa := HRa.low hb
  replace HB := HB.trans (hb.mono HB.size)
  clear hb
  clear egs
  refine Fw.storeW sz48 rfl rfl Hs rfl rfl (by exact Fw.oneCells rfl) ?_
  intro w14 N_ hc
  replace Hx := Hx.chg hc (by omega)
  replace Hl := Hl.chg hc (by omega)
  replace Hy := Hy.chg hc (by omega)
  replace HAg := HAg.over hc ((Fw.Kp.refl [48] _).one hc Hs rfl) (by omega) (by omega) rfl rfl rfl rfl
  replace HRa := HRa.over hc ((Fw.Kp.refl [48] _).one hc Hs rfl) (by omega) (fun k e => by omega) rfl
  replace HB := HB.trans (hc.below (B := w.heap.size) (fun k e => by omega) HB.size)
  clear hc
  clear Hs
  have Hs := N_
  clear N_
  replace Hs : Blk w14 gs 48 #[.int .i64 (Ag.reportS E u a1 l[k].t g).u, .int .i64 (Ag.reportS E u a1 l[k].t g).q, .int .i64 (Ag.reportS E u a1 l[k].t g).s, .int .i64 (Ag.reportS E u a1 l[k].t g).n, .int .i64 (Ag.reportS E u a1 l[k].t g).e] := Hs
  refine Fw.s (Fw.val_assign rfl) rfl ?_
  refine Fw.nil ?_
  refine hK21 _ _ (Fw.FC.sub (f' := [(14, _), (13, _), (2, _), (3, _), (7, _), (8, _), (10, _), (36, _), (37, _), (38, _)]) (.cons rfl (.cons rfl (.cons rfl (.cons rfl (.cons rfl (.cons rfl (.cons rfl (.cons rfl (.cons rfl (.cons rfl .nil)))))))))) ?_)
  refine Fw.seq_cutE (α := Int × Or.F) (fun x_ => match x_ with | ⟨mn2, mg2⟩ => [(2, .int .i64 g), (3, .pointer (some ⟨gx, 0, none⟩)), (7, .pointer (some ⟨p, 0, none⟩)), (8, .pointer (some ⟨q, 0, none⟩)), (10, .pointer (some ⟨gl, 0, none⟩)), (36, .slice Al l.length cl), (37, .int .i64 l.length), (38, .int .i64 k), (13, .pointer (some ⟨gs, 0, none⟩)), (14, .bool (Ag.reportB E a1 l[k].t g))]) (fun x_ W_ => match x_ with | ⟨mn2, mg2⟩ => Blk W_ gx 26 #[.int .i64 u, .int .i64 v, .int .i64 (N : Int), .slice Ae E.length ce] ∧ Blk W_ gl 48 #[.int .i64 b.l.u, .int .i64 b.l.q, .int .i64 b.l.s, .int .i64 b.l.n, .int .i64 b.l.e] ∧ Blk W_ gs 48 #[.int .i64 (Ag.reportS E u a1 l[k].t g).u, .int .i64 (Ag.reportS E u a1 l[k].t g).q, .int .i64 (Ag.reportS E u a1 l[k].t g).s, .int .i64 (Ag.reportS E u a1 l[k].t g).n, .int .i64 (Ag.reportS E u a1 l[k].t g).e] ∧ AgAt W_ p pf pg N E u a2 ∧ RaAt W_ w.heap.size q N E u Ae ce mn2 mg2 ∧ Below (w.heap.size) w W_) ?_ (fun _ hK22 => ?_)
  rintro ⟨mn2, mg2⟩ w15 ⟨Hx, Hl, Hs, HAg, HRa, HB⟩
  show Fw.FC _ _ _ _ _ [(2, .int .i64 g), (3, .pointer (some ⟨gx, 0, none⟩)), (7, .pointer (some ⟨p, 0, none⟩)), (8, .pointer (some ⟨q, 0, none⟩)), (10, .pointer (some ⟨gl, 0, none⟩)), (36, .slice Al l.length cl), (37, .int .i64 l.length), (38, .int .i64 k), (13, .pointer (some ⟨gs, 0, none⟩)), (14, .bool (Ag.reportB E a1 l[k].t g))] _
  refine Fw.seq fun _ hK23 => ?_
  refine Fw.region ?_
  refine Fw.s (Fw.val_move rfl) rfl ?_
  refine Fw.b2 ?_ ?_
  rintro hsd
  refine Fw.nil ?_
  refine hK23 _ _ ?_
  refine Fw.condT rfl ?_
  refine Fw.seq fun _ hK24 => ?_
  refine Fw.seq fun _ hK25 => ?_
  have hS : (Ag.reportS E u a1 l[k].t g) = Ag.says u a3 := by rw [ha3]; exact if_pos hsd
  rw [if_pos hsd] at hrl
  have hq3 : IntKind.i64.wrap (a3.l.q + 1) = b.l.q + 1 := by rw [hla3]; exact Ag.wrap_succ (by omega)
  have hs0 : (Ag.reportS E u a1 l[k].t g).u = u := by rw [hS]; rfl
  have hs1 : (Ag.reportS E u a1 l[k].t g).q = b.l.q + 1 := by rw [hS]; exact hq3
  have hs2 : (Ag.reportS E u a1 l[k].t g).s = a2.s := by rw [hS, hrs.1]; rfl
  have hs3 : (Ag.reportS E u a1 l[k].t g).n = (a2.v : Int) := by rw [hS, hrs.2.1]; rfl
  have hs4 : (Ag.reportS E u a1 l[k].t g).e = Ag.epoch a2 := by rw [hS, hrs.2.2]; rfl
  have hq2 : 0 ≤ a2.l.q ∧ a2.l.q ≤ ((k + 1 : Nat) : Int) := by rw [hrl]; show 0 ≤ IntKind.i64.wrap (a3.l.q + 1) ∧ IntKind.i64.wrap (a3.l.q + 1) ≤ _; omega
  have hl2_ : a2.l = (Ag.reportS E u a1 l[k].t g) := hrl.trans hS.symm
  refine Fw.regionQ (by kernel_rfl) (by kernel_rfl) ?_
  refine Fw.q (Fw.val_fieldAddr fl48_1 rfl rfl) rfl ?_
  refine Fw.ldQ sc2 rfl (Hs.cell 1) rfl ?_
  refine Fw.q (Fw.val_fieldAddr fl48_1 rfl rfl) rfl ?_
  refine Fw.ldQ sc2 rfl (Hl.cell 1) rfl ?_
  refine Fw.q (Fw.val_bin rfl rfl (Fw.b_add (Fw.i64_ok (by omega)))) rfl ?_
  refine Fw.q (Fw.Val.F (Fw.val_bin rfl rfl Fw.b_neq) (by omega)) rfl ?_
  refine Fw.q (Fw.val_move rfl) rfl ?_
  refine Fw.gTQ (d := 95) rfl rfl ?_
  refine Fw.q (Fw.val_fieldAddr fl48_2 rfl rfl) rfl ?_
  refine Fw.gTQ (d := 95) rfl rfl ?_
  refine Fw.ldQ sc3 rfl (Hs.cell 2) rfl ?_
  refine Fw.gTQ (d := 95) rfl rfl ?_
  refine Fw.q (Fw.val_move rfl) rfl ?_
  refine Fw.gTQ (d := 95) rfl rfl ?_
  refine Fw.callQ cf14 rfl rfl (fun w_ hb_ => agState_any _ p pf pg N E u (a2) (HAg.low hb_)) (fun _ _ _ h => ⟨h.1, h.2 ▸ Below.refl _ _⟩) ?_
  refine Fw.gTQ (d := 95) rfl rfl ?_
  refine Fw.q (Fw.Val.F (Fw.val_bin rfl rfl Fw.b_neq) (by omega)) rfl ?_
  refine Fw.q (Fw.val_pickF rfl rfl) rfl ?_
  refine Fw.q (Fw.val_move rfl) rfl ?_
  refine Fw.gTQ (d := 102) rfl rfl ?_
  refine Fw.q (Fw.val_fieldAddr fl48_3 rfl rfl) rfl ?_
  refine Fw.gTQ (d := 102) rfl rfl ?_
  refine Fw.ldQ sc3 rfl (Hs.cell 3) rfl ?_
  refine Fw.gTQ (d := 102) rfl rfl ?_
  refine Fw.q (Fw.val_move rfl) rfl ?_
  refine Fw.gTQ (d := 102) rfl rfl ?_
  refine Fw.callQ cf15 rfl rfl (fun w_ hb_ => agNode_any _ p pf pg N E u (a2) (HAg.low hb_)) (fun _ _ _ h => ⟨h.1, h.2 ▸ Below.refl _ _⟩) ?_
  refine Fw.gTQ (d := 102) rfl rfl ?_
  refine Fw.q (Fw.Val.F (Fw.val_bin rfl rfl Fw.b_neq) (by omega)) rfl ?_
  refine Fw.q (Fw.val_pickF rfl rfl) rfl ?_
  refine Fw.q (Fw.val_move rfl) rfl ?_
  refine Fw.gTQ (d := 109) rfl rfl ?_
  refine Fw.q (Fw.val_fieldAddr fl48_4 rfl rfl) rfl ?_
  refine Fw.gTQ (d := 109) rfl rfl ?_
  refine Fw.ldQ sc2 rfl (Hs.cell 4) rfl ?_
  refine Fw.gTQ (d := 109) rfl rfl ?_
  refine Fw.q (Fw.val_move rfl) rfl ?_
  refine Fw.gTQ (d := 109) rfl rfl ?_
  refine Fw.callQ cf20 rfl rfl (fun w_ hb_ => agEpoch_any _ p pf pg N E u (a2) (HAg.low hb_)) (fun _ _ _ h => h) ?_
  refine Fw.gTQ (d := 109) rfl rfl ?_
  refine Fw.q (Fw.Val.F (Fw.val_bin rfl rfl Fw.b_neq) (by omega)) rfl ?_
  refine Fw.q (Fw.val_pickF rfl rfl) rfl ?_
  refine Fw.q (Fw.val_move rfl) rfl ?_
  refine Fw.gTQ (d := 116) rfl rfl ?_
  refine Fw.q (Fw.val_fieldAddr fl48_0 rfl rfl) rfl ?_
  refine Fw.gTQ (d := 116) rfl rfl ?_
  refine Fw.ldQ sc3 rfl (Hs.cell 0) rfl ?_
  refine Fw.gTQ (d := 116) rfl rfl ?_
  refine Fw.q (Fw.val_fieldAddr fl26_0 rfl rfl) rfl ?_
  refine Fw.gTQ (d := 116) rfl rfl ?_
  refine Fw.ldQ sc3 rfl (Hx.cell 0) rfl ?_
  refine Fw.gTQ (d := 116) rfl rfl ?_
  refine Fw.q (Fw.Val.F (Fw.val_bin rfl rfl Fw.b_neq) (by omega)) rfl ?_
  refine Fw.q (Fw.val_pickF rfl rfl) rfl ?_
  refine Fw.nilQ ?_
  intro w16 hb
  replace Hx := Hx.low hb
  replace Hl := Hl.low hb
  replace Hs := Hs.low hb
  replace HAg := HAg.low hb
  replace HRa := HRa.low hb
  replace HB := HB.trans (hb.mono HB.size)
  clear hb
  refine hK25 _ _ (Fw.FC.sub (f' := [(122, _), (121, _), (120, _), (119, _), (118, _), (117, _), (114, _), (113, _), (112, _), (111, _), (110, _), (107, _), (106, _), (105, _), (104, _), (103, _), (100, _), (99, _), (98, _), (97, _), (96, _), (2, _), (3, _), (7, _), (8, _), (10, _), (36, _), (37, _), (38, _), (13, _)]) (.cons rfl (.cons rfl (.cons rfl (.cons rfl (.cons rfl (.cons rfl (.cons rfl (.cons rfl (.cons rfl (.cons rfl (.cons rfl (.cons rfl (.cons rfl (.cons rfl (.cons rfl (.cons rfl (.cons rfl (.cons rfl (.cons rfl (.cons rfl (.cons rfl (.cons rfl (.cons rfl (.cons rfl (.cons rfl (.cons rfl (.cons rfl (.cons rfl (.cons rfl (.cons rfl .nil)))))))))))))))))))))))))))))) ?_)
  refine Fw.condF rfl ?_
  refine Fw.skip ?_
  refine hK24 _ _ ?_
  refine Fw.region ?_
  refine Fw.ldA ag48 rfl (Fw.rdBlk Hs) rfl rfl ?_
  refine Fw.storeW sz48 rfl rfl Hl rfl rfl (by exact Fw.oneCells rfl) ?_
  intro w17 N_ hc
  replace Hx := Hx.chg hc (by omega)
  replace Hs := Hs.chg hc (by omega)
  replace HAg := HAg.over hc ((Fw.Kp.refl [48] _).one hc Hl rfl) (by omega) (by omega) rfl rfl rfl rfl
  replace HRa := HRa.over hc ((Fw.Kp.refl [48] _).one hc Hl rfl) (by omega) (fun k e => by omega) rfl
  replace HB := HB.trans (hc.below (B := w.heap.size) (fun k e => by omega) HB.size)
  clear hc
  clear Hl
  have Hl := N_
  clear N_
  replace Hl : Blk w17 gl 48 #[.int .i64 (Ag.reportS E u a1 l[k].t g).u, .int .i64 (Ag.reportS E u a1 l[k].t g).q, .int .i64 (Ag.reportS E u a1 l[k].t g).s, .int .i64 (Ag.reportS E u a1 l[k].t g).n, .int .i64 (Ag.reportS E u a1 l[k].t g).e] := Hl
  refine Fw.nil ?_
  refine Fw.X_blockN ?_
  refine hK16 _ _ ?_
  rw [← hl2_] at Hl
  refine Fw.region ?_
  refine Fw.s (Fw.val_bin rfl rfl (Fw.b_add (Fw.i64_ok (by omega)))) rfl ?_
  refine Fw.s (Fw.val_move rfl) rfl ?_
  refine Fw.nil ?_
  refine Fw.roundEnd _ _ (by omega) ⟨k + 1, a2, _, _, rfl, by omega, hga2, hq2, Hx, HAg, HRa, Hl, HB, rfl⟩ (.cons rfl (.cons rfl (.cons rfl (.cons rfl (.cons rfl (.cons rfl (.cons rfl (.cons rfl .nil))))))))
  rintro hsd
  refine Fw.nil ?_
  refine hK23 _ _ ?_
  refine Fw.condF rfl ?_
  refine Fw.seq fun _ hK26 => ?_
  have hS : (Ag.reportS E u a1 l[k].t g) = Ag.nil_ := if_neg (by rw [hsd]; decide)
  rw [if_neg (by rw [hsd]; decide), hla3] at hrl
  have hq2 : 0 ≤ a2.l.q ∧ a2.l.q ≤ ((k + 1 : Nat) : Int) := by rw [hrl]; omega
  have hnc : ¬ Ag.changed a3 := fun c => by have := of_decide_eq_false (hb3.symm.trans hsd); exact this (.inl c)
  have hn1 : ¬ b.l.q = 0 := fun c => hnc (by unfold Ag.changed; rw [hla3]; exact .inl c)
  have hn2 : ¬ b.l.s ≠ a2.s := fun c => hnc (by unfold Ag.changed; rw [hla3, ← hrs.1]; exact .inr (.inl c))
  have hn3 : ¬ b.l.n ≠ (a2.v : Int) := fun c => hnc (by unfold Ag.changed; rw [hla3, ← hrs.2.1]; exact .inr (.inr (.inl c)))
  have hn4 : ¬ b.l.e ≠ Ag.epoch a2 := fun c => hnc (by unfold Ag.changed; rw [hla3, ← hrs.2.2]; exact .inr (.inr (.inr c)))
  refine Fw.region ?_
  refine Fw.ldA ag48 rfl (Fw.rdBlk Hs) rfl rfl ?_
  refine Fw.s (Fw.val_build (ps := []) rfl (bu48_)) rfl ?_
  refine Fw.s (Fw.Val.F (Fw.val_bin rfl rfl (Fw.b_neqA eq48 [(Ag.reportS E u a1 l[k].t g).u, (Ag.reportS E u a1 l[k].t g).q, (Ag.reportS E u a1 l[k].t g).s, (Ag.reportS E u a1 l[k].t g).n, (Ag.reportS E u a1 l[k].t g).e] [0, 0, 0, 0, 0] rfl rfl)) (by rw [hS]; decide)) rfl ?_
  refine Fw.nil ?_
  refine hK26 _ _ ?_
  refine Fw.condF rfl ?_
  refine Fw.skip ?_
  refine Fw.X_blockN ?_
  refine hK16 _ _ (Fw.FC.sub (f' := [(2, _), (3, _), (7, _), (8, _), (10, _), (36, _), (37, _), (38, _)]) (.cons rfl (.cons rfl (.cons rfl (.cons rfl (.cons rfl (.cons rfl (.cons rfl (.cons rfl .nil)))))))) ?_)
  rw [← hrl] at Hl
  refine Fw.region ?_
  refine Fw.s (Fw.val_bin rfl rfl (Fw.b_add (Fw.i64_ok (by omega)))) rfl ?_
  refine Fw.s (Fw.val_move rfl) rfl ?_
  refine Fw.nil ?_
  refine Fw.roundEnd _ _ (by omega) ⟨k + 1, a2, _, _, rfl, by omega, hga2, hq2, Hx, HAg, HRa, Hl, HB, rfl⟩ (.cons rfl (.cons rfl (.cons rfl (.cons rfl (.cons rfl (.cons rfl (.cons rfl (.cons rfl .nil))))))))
  refine Fw.seq fun _ hK27 => ?_
  refine Fw.regionQ (by kernel_rfl) (by kernel_rfl) ?_
  refine Fw.q (Fw.val_move rfl) rfl ?_
  refine Fw.b2Q ?_ ?_
  rintro hsd
  have hS : (Ag.reportS E u a1 l[k].t g) = Ag.says u a3 := by rw [ha3]; exact if_pos hsd
  rw [if_pos hsd] at hrl
  have hq3 : IntKind.i64.wrap (a3.l.q + 1) = b.l.q + 1 := by rw [hla3]; exact Ag.wrap_succ (by omega)
  have hs0 : (Ag.reportS E u a1 l[k].t g).u = u := by rw [hS]; rfl
  have hs1 : (Ag.reportS E u a1 l[k].t g).q = b.l.q + 1 := by rw [hS]; exact hq3
  have hs2 : (Ag.reportS E u a1 l[k].t g).s = a2.s := by rw [hS, hrs.1]; rfl
  have hs3 : (Ag.reportS E u a1 l[k].t g).n = (a2.v : Int) := by rw [hS, hrs.2.1]; rfl
  have hs4 : (Ag.reportS E u a1 l[k].t g).e = Ag.epoch a2 := by rw [hS, hrs.2.2]; rfl
  have hq2 : 0 ≤ a2.l.q ∧ a2.l.q ≤ ((k + 1 : Nat) : Int) := by rw [hrl]; show 0 ≤ IntKind.i64.wrap (a3.l.q + 1) ∧ IntKind.i64.wrap (a3.l.q + 1) ≤ _; omega
  have hl2_ : a2.l = (Ag.reportS E u a1 l[k].t g) := hrl.trans hS.symm
  refine Fw.q (Fw.val_fieldAddr fl48_1 rfl rfl) rfl ?_
  refine Fw.ldQ sc2 rfl (Hl.cell 1) rfl ?_
  refine Fw.q2 (Fw.val_bin rfl rfl Fw.b_eql) rfl ?_ ?_
  rintro z1
  refine Fw.q (Fw.val_move rfl) rfl ?_
  refine Fw.gFQ (d := 62) rfl rfl rfl rfl ?_
  refine Fw.gFQ (d := 62) rfl rfl rfl rfl ?_
  refine Fw.gFQ (d := 62) rfl rfl rfl rfl ?_
  refine Fw.gFQ (d := 62) rfl rfl rfl rfl ?_
  refine Fw.gFQ (d := 62) rfl rfl rfl rfl ?_
  refine Fw.q (Fw.val_pickT rfl rfl) rfl ?_
  refine Fw.q (Fw.val_move rfl) rfl ?_
  refine Fw.gFQ (d := 69) rfl rfl rfl rfl ?_
  refine Fw.gFQ (d := 69) rfl rfl rfl rfl ?_
  refine Fw.gFQ (d := 69) rfl rfl rfl rfl ?_
  refine Fw.gFQ (d := 69) rfl rfl rfl rfl ?_
  refine Fw.gFQ (d := 69) rfl rfl rfl rfl ?_
  refine Fw.q (Fw.val_pickT rfl rfl) rfl ?_
  refine Fw.q (Fw.val_move rfl) rfl ?_
  refine Fw.gFQ (d := 76) rfl rfl rfl rfl ?_
  refine Fw.gFQ (d := 76) rfl rfl rfl rfl ?_
  refine Fw.gFQ (d := 76) rfl rfl rfl rfl ?_
  refine Fw.gFQ (d := 76) rfl rfl rfl rfl ?_
  refine Fw.gFQ (d := 76) rfl rfl rfl rfl ?_
  refine Fw.q (Fw.val_pickT rfl rfl) rfl ?_
  refine Fw.q (Fw.Val.F (Fw.val_bin rfl rfl (Fw.b_neqB Try.underlying4)) (by decide)) rfl ?_
  refine Fw.q (Fw.val_move rfl) rfl ?_
  refine Fw.gFQ (d := 84) rfl rfl rfl rfl ?_
  refine Fw.gFQ (d := 84) rfl rfl rfl rfl ?_
  refine Fw.q (Fw.val_pickF rfl rfl) rfl ?_
  refine Fw.nilQ ?_
  intro w18 hb
  replace Hx := Hx.low hb
  replace Hl := Hl.low hb
  replace Hy := Hy.low hb
  replace HAg := HAg.low hb
  replace HRa := HRa.low hb
  replace Hs := Hs.low hb
  replace HB := HB.trans (hb.mono HB.size)
  clear hb
  refine hK27 _ _ (Fw.FC.sub (f' := [(87, _), (14, _), (13, _), (2, _), (3, _), (7, _), (8, _), (10, _), (36, _), (37, _), (38, _)]) (.cons rfl (.cons rfl (.cons rfl (.cons rfl (.cons rfl (.cons rfl (.cons rfl (.cons rfl (.cons rfl (.cons rfl (.cons rfl .nil))))))))))) ?_)
  refine Fw.condF rfl ?_
  refine Fw.skip ?_
  exact hK22 _ _ ⟨_, _⟩ ⟨Hx, Hl, Hs, HAg, HRa, HB⟩ (.cons rfl (.cons rfl (.cons rfl (.cons rfl (.cons rfl (.cons rfl (.cons rfl (.cons rfl (.cons rfl (.cons rfl .nil))))))))))
  rintro z1
  refine Fw.q (Fw.val_move rfl) rfl ?_
  refine Fw.gTQ (d := 62) rfl rfl ?_
  refine Fw.q (Fw.val_fieldAddr fl48_2 rfl rfl) rfl ?_
  refine Fw.gTQ (d := 62) rfl rfl ?_
  refine Fw.ldQ sc3 rfl (Hl.cell 2) rfl ?_
  refine Fw.gTQ (d := 62) rfl rfl ?_
  refine Fw.q (Fw.val_move rfl) rfl ?_
  refine Fw.gTQ (d := 62) rfl rfl ?_
  refine Fw.callQ cf14 rfl rfl (fun w_ hb_ => agState_any _ p pf pg N E u (a2) (HAg.low hb_)) (fun _ _ _ h => ⟨h.1, h.2 ▸ Below.refl _ _⟩) ?_
  refine Fw.gTQ (d := 62) rfl rfl ?_
  refine Fw.q2 (Fw.val_bin rfl rfl Fw.b_neq) rfl ?_ ?_
  rintro z2
  refine Fw.q (Fw.val_pickF rfl rfl) rfl ?_
  refine Fw.q (Fw.val_move rfl) rfl ?_
  refine Fw.gFQ (d := 69) rfl rfl rfl rfl ?_
  refine Fw.gFQ (d := 69) rfl rfl rfl rfl ?_
  refine Fw.gFQ (d := 69) rfl rfl rfl rfl ?_
  refine Fw.gFQ (d := 69) rfl rfl rfl rfl ?_
  refine Fw.gFQ (d := 69) rfl rfl rfl rfl ?_
  refine Fw.q (Fw.val_pickT rfl rfl) rfl ?_
  refine Fw.q (Fw.val_move rfl) rfl ?_
  refine Fw.gFQ (d := 76) rfl rfl rfl rfl ?_
  refine Fw.gFQ (d := 76) rfl rfl rfl rfl ?_
  refine Fw.gFQ (d := 76) rfl rfl rfl rfl ?_
  refine Fw.gFQ (d := 76) rfl rfl rfl rfl ?_
  refine Fw.gFQ (d := 76) rfl rfl rfl rfl ?_
  refine Fw.q (Fw.val_pickT rfl rfl) rfl ?_
  refine Fw.q (Fw.Val.F (Fw.val_bin rfl rfl (Fw.b_neqB Try.underlying4)) (by decide)) rfl ?_
  refine Fw.q (Fw.val_move rfl) rfl ?_
  refine Fw.gFQ (d := 84) rfl rfl rfl rfl ?_
  refine Fw.gFQ (d := 84) rfl rfl rfl rfl ?_
  refine Fw.q (Fw.val_pickF rfl rfl) rfl ?_
  refine Fw.nilQ ?_
  intro w19 hb
  replace Hx := Hx.low hb
  replace Hl := Hl.low hb
  replace Hy := Hy.low hb
  replace HAg := HAg.low hb
  replace HRa := HRa.low hb
  replace Hs := Hs.low hb
  replace HB := HB.trans (hb.mono HB.size)
  clear hb
  refine hK27 _ _ (Fw.FC.sub (f' := [(87, _), (14, _), (13, _), (2, _), (3, _), (7, _), (8, _), (10, _), (36, _), (37, _), (38, _)]) (.cons rfl (.cons rfl (.cons rfl (.cons rfl (.cons rfl (.cons rfl (.cons rfl (.cons rfl (.cons rfl (.cons rfl (.cons rfl .nil))))))))))) ?_)
  refine Fw.condF rfl ?_
  refine Fw.skip ?_
  exact hK22 _ _ ⟨_, _⟩ ⟨Hx, Hl, Hs, HAg, HRa, HB⟩ (.cons rfl (.cons rfl (.cons rfl (.cons rfl (.cons rfl (.cons rfl (.cons rfl (.cons rfl (.cons rfl (.cons rfl .nil))))))))))
  rintro z2
  refine Fw.q (Fw.val_pickF rfl rfl) rfl ?_
  refine Fw.q (Fw.val_move rfl) rfl ?_
  refine Fw.gTQ (d := 69) rfl rfl ?_
  refine Fw.q (Fw.val_fieldAddr fl48_3 rfl rfl) rfl ?_
  refine Fw.gTQ (d := 69) rfl rfl ?_
  refine Fw.ldQ sc3 rfl (Hl.cell 3) rfl ?_
  refine Fw.gTQ (d := 69) rfl rfl ?_
  refine Fw.q (Fw.val_move rfl) rfl ?_
  refine Fw.gTQ (d := 69) rfl rfl ?_
  refine Fw.callQ cf15 rfl rfl (fun w_ hb_ => agNode_any _ p pf pg N E u (a2) (HAg.low hb_)) (fun _ _ _ h => ⟨h.1, h.2 ▸ Below.refl _ _⟩) ?_
  refine Fw.gTQ (d := 69) rfl rfl ?_
  refine Fw.q2 (Fw.val_bin rfl rfl Fw.b_neq) rfl ?_ ?_
  rintro z3
  refine Fw.q (Fw.val_pickF rfl rfl) rfl ?_
  refine Fw.q (Fw.val_move rfl) rfl ?_
  refine Fw.gFQ (d := 76) rfl rfl rfl rfl ?_
  refine Fw.gFQ (d := 76) rfl rfl rfl rfl ?_
  refine Fw.gFQ (d := 76) rfl rfl rfl rfl ?_
  refine Fw.gFQ (d := 76) rfl rfl rfl rfl ?_
  refine Fw.gFQ (d := 76) rfl rfl rfl rfl ?_
  refine Fw.q (Fw.val_pickT rfl rfl) rfl ?_
  refine Fw.q (Fw.Val.F (Fw.val_bin rfl rfl (Fw.b_neqB Try.underlying4)) (by decide)) rfl ?_
  refine Fw.q (Fw.val_move rfl) rfl ?_
  refine Fw.gFQ (d := 84) rfl rfl rfl rfl ?_
  refine Fw.gFQ (d := 84) rfl rfl rfl rfl ?_
  refine Fw.q (Fw.val_pickF rfl rfl) rfl ?_
  refine Fw.nilQ ?_
  intro w20 hb
  replace Hx := Hx.low hb
  replace Hl := Hl.low hb
  replace Hy := Hy.low hb
  replace HAg := HAg.low hb
  replace HRa := HRa.low hb
  replace Hs := Hs.low hb
  replace HB := HB.trans (hb.mono HB.size)
  clear hb
  refine hK27 _ _ (Fw.FC.sub (f' := [(87, _), (14, _), (13, _), (2, _), (3, _), (7, _), (8, _), (10, _), (36, _), (37, _), (38, _)]) (.cons rfl (.cons rfl (.cons rfl (.cons rfl (.cons rfl (.cons rfl (.cons rfl (.cons rfl (.cons rfl (.cons rfl (.cons rfl .nil))))))))))) ?_)
  refine Fw.condF rfl ?_
  refine Fw.skip ?_
  exact hK22 _ _ ⟨_, _⟩ ⟨Hx, Hl, Hs, HAg, HRa, HB⟩ (.cons rfl (.cons rfl (.cons rfl (.cons rfl (.cons rfl (.cons rfl (.cons rfl (.cons rfl (.cons rfl (.cons rfl .nil))))))))))
  rintro z3
  refine Fw.q (Fw.val_pickF rfl rfl) rfl ?_
  refine Fw.q (Fw.val_move rfl) rfl ?_
  refine Fw.gTQ (d := 76) rfl rfl ?_
  refine Fw.q (Fw.val_fieldAddr fl48_4 rfl rfl) rfl ?_
  refine Fw.gTQ (d := 76) rfl rfl ?_
  refine Fw.ldQ sc2 rfl (Hl.cell 4) rfl ?_
  refine Fw.gTQ (d := 76) rfl rfl ?_
  refine Fw.q (Fw.val_move rfl) rfl ?_
  refine Fw.gTQ (d := 76) rfl rfl ?_
  refine Fw.callQ cf20 rfl rfl (fun w_ hb_ => agEpoch_any _ p pf pg N E u (a2) (HAg.low hb_)) (fun _ _ _ h => h) ?_
  refine Fw.gTQ (d := 76) rfl rfl ?_
  refine Fw.q2 (Fw.val_bin rfl rfl Fw.b_neq) rfl ?_ ?_
  rintro z4
  refine Fw.q (Fw.val_pickF rfl rfl) rfl ?_
  refine Fw.q (Fw.Val.F (Fw.val_bin rfl rfl (Fw.b_neqB Try.underlying4)) (by decide)) rfl ?_
  refine Fw.q (Fw.val_move rfl) rfl ?_
  refine Fw.gFQ (d := 84) rfl rfl rfl rfl ?_
  refine Fw.gFQ (d := 84) rfl rfl rfl rfl ?_
  refine Fw.q (Fw.val_pickF rfl rfl) rfl ?_
  refine Fw.nilQ ?_
  intro w21 hb
  replace Hx := Hx.low hb
  replace Hl := Hl.low hb
  replace Hy := Hy.low hb
  replace HAg := HAg.low hb
  replace HRa := HRa.low hb
  replace Hs := Hs.low hb
  replace HB := HB.trans (hb.mono HB.size)
  clear hb
  refine hK27 _ _ (Fw.FC.sub (f' := [(87, _), (14, _), (13, _), (2, _), (3, _), (7, _), (8, _), (10, _), (36, _), (37, _), (38, _)]) (.cons rfl (.cons rfl (.cons rfl (.cons rfl (.cons rfl (.cons rfl (.cons rfl (.cons rfl (.cons rfl (.cons rfl (.cons rfl .nil))))))))))) ?_)
  refine Fw.condF rfl ?_
  refine Fw.skip ?_
  exact hK22 _ _ ⟨_, _⟩ ⟨Hx, Hl, Hs, HAg, HRa, HB⟩ (.cons rfl (.cons rfl (.cons rfl (.cons rfl (.cons rfl (.cons rfl (.cons rfl (.cons rfl (.cons rfl (.cons rfl .nil))))))))))
  rintro z4
  refine Fw.q (Fw.val_pickF rfl rfl) rfl ?_
  refine Fw.q (Fw.Val.T (Fw.val_bin rfl rfl (Fw.b_neqB Try.underlying4)) (by decide)) rfl ?_
  refine Fw.q (Fw.val_move rfl) rfl ?_
  refine Fw.gTQ (d := 84) rfl rfl ?_
  refine Fw.q (Fw.val_move rfl) rfl ?_
  refine Fw.gTQ (d := 84) rfl rfl ?_
  refine Fw.q (Fw.Val.F (Fw.val_bin rfl rfl Fw.b_leq) (by exact fun hg0 => Ag.due_pos (hb3.symm.trans hsd) hg0 (by unfold Ag.changed; rw [hla3, ← hrs.1, ← hrs.2.1, ← hrs.2.2]; exact fun c => c.elim z1 (fun c => c.elim z2 (fun c => c.elim z3 z4))))) rfl ?_
  refine Fw.q (Fw.val_pickT rfl rfl) rfl ?_
  refine Fw.nilQ ?_
  intro w22 hb
  replace Hx := Hx.low hb
  replace Hl := Hl.low hb
  replace Hy := Hy.low hb
  replace HAg := HAg.low hb
  replace HRa := HRa.low hb
  replace Hs := Hs.low hb
  replace HB := HB.trans (hb.mono HB.size)
  clear hb
  refine hK27 _ _ (Fw.FC.sub (f' := [(87, _), (14, _), (13, _), (2, _), (3, _), (7, _), (8, _), (10, _), (36, _), (37, _), (38, _)]) (.cons rfl (.cons rfl (.cons rfl (.cons rfl (.cons rfl (.cons rfl (.cons rfl (.cons rfl (.cons rfl (.cons rfl (.cons rfl .nil))))))))))) ?_)
  refine Fw.condF rfl ?_
  refine Fw.skip ?_
  exact hK22 _ _ ⟨_, _⟩ ⟨Hx, Hl, Hs, HAg, HRa, HB⟩ (.cons rfl (.cons rfl (.cons rfl (.cons rfl (.cons rfl (.cons rfl (.cons rfl (.cons rfl (.cons rfl (.cons rfl .nil))))))))))
  rintro hsd
  have hS : (Ag.reportS E u a1 l[k].t g) = Ag.nil_ := if_neg (by rw [hsd]; decide)
  rw [if_neg (by rw [hsd]; decide), hla3] at hrl
  have hq2 : 0 ≤ a2.l.q ∧ a2.l.q ≤ ((k + 1 : Nat) : Int) := by rw [hrl]; omega
  have hnc : ¬ Ag.changed a3 := fun c => by have := of_decide_eq_false (hb3.symm.trans hsd); exact this (.inl c)
  have hn1 : ¬ b.l.q = 0 := fun c => hnc (by unfold Ag.changed; rw [hla3]; exact .inl c)
  have hn2 : ¬ b.l.s ≠ a2.s := fun c => hnc (by unfold Ag.changed; rw [hla3, ← hrs.1]; exact .inr (.inl c))
  have hn3 : ¬ b.l.n ≠ (a2.v : Int) := fun c => hnc (by unfold Ag.changed; rw [hla3, ← hrs.2.1]; exact .inr (.inr (.inl c)))
  have hn4 : ¬ b.l.e ≠ Ag.epoch a2 := fun c => hnc (by unfold Ag.changed; rw [hla3, ← hrs.2.2]; exact .inr (.inr (.inr c)))
  refine Fw.q (Fw.val_fieldAddr fl48_1 rfl rfl) rfl ?_
  refine Fw.ldQ sc2 rfl (Hl.cell 1) rfl ?_
  refine Fw.q (Fw.Val.F (Fw.val_bin rfl rfl Fw.b_eql) (by exact hn1)) rfl ?_
  refine Fw.q (Fw.val_move rfl) rfl ?_
  refine Fw.gTQ (d := 62) rfl rfl ?_
  refine Fw.q (Fw.val_fieldAddr fl48_2 rfl rfl) rfl ?_
  refine Fw.gTQ (d := 62) rfl rfl ?_
  refine Fw.ldQ sc3 rfl (Hl.cell 2) rfl ?_
  refine Fw.gTQ (d := 62) rfl rfl ?_
  refine Fw.q (Fw.val_move rfl) rfl ?_
  refine Fw.gTQ (d := 62) rfl rfl ?_
  refine Fw.callQ cf14 rfl rfl (fun w_ hb_ => agState_any _ p pf pg N E u (a2) (HAg.low hb_)) (fun _ _ _ h => ⟨h.1, h.2 ▸ Below.refl _ _⟩) ?_
  refine Fw.gTQ (d := 62) rfl rfl ?_
  refine Fw.q (Fw.Val.F (Fw.val_bin rfl rfl Fw.b_neq) (by exact hn2)) rfl ?_
  refine Fw.q (Fw.val_pickF rfl rfl) rfl ?_
  refine Fw.q (Fw.val_move rfl) rfl ?_
  refine Fw.gTQ (d := 69) rfl rfl ?_
  refine Fw.q (Fw.val_fieldAddr fl48_3 rfl rfl) rfl ?_
  refine Fw.gTQ (d := 69) rfl rfl ?_
  refine Fw.ldQ sc3 rfl (Hl.cell 3) rfl ?_
  refine Fw.gTQ (d := 69) rfl rfl ?_
  refine Fw.q (Fw.val_move rfl) rfl ?_
  refine Fw.gTQ (d := 69) rfl rfl ?_
  refine Fw.callQ cf15 rfl rfl (fun w_ hb_ => agNode_any _ p pf pg N E u (a2) (HAg.low hb_)) (fun _ _ _ h => ⟨h.1, h.2 ▸ Below.refl _ _⟩) ?_
  refine Fw.gTQ (d := 69) rfl rfl ?_
  refine Fw.q (Fw.Val.F (Fw.val_bin rfl rfl Fw.b_neq) (by exact hn3)) rfl ?_
  refine Fw.q (Fw.val_pickF rfl rfl) rfl ?_
  refine Fw.q (Fw.val_move rfl) rfl ?_
  refine Fw.gTQ (d := 76) rfl rfl ?_
  refine Fw.q (Fw.val_fieldAddr fl48_4 rfl rfl) rfl ?_
  refine Fw.gTQ (d := 76) rfl rfl ?_
  refine Fw.ldQ sc2 rfl (Hl.cell 4) rfl ?_
  refine Fw.gTQ (d := 76) rfl rfl ?_
  refine Fw.q (Fw.val_move rfl) rfl ?_
  refine Fw.gTQ (d := 76) rfl rfl ?_
  refine Fw.callQ cf20 rfl rfl (fun w_ hb_ => agEpoch_any _ p pf pg N E u (a2) (HAg.low hb_)) (fun _ _ _ h => h) ?_
  refine Fw.gTQ (d := 76) rfl rfl ?_
  refine Fw.q (Fw.Val.F (Fw.val_bin rfl rfl Fw.b_neq) (by exact hn4)) rfl ?_
  refine Fw.q (Fw.val_pickF rfl rfl) rfl ?_
  refine Fw.q (Fw.Val.F (Fw.val_bin rfl rfl (Fw.b_neqB Try.underlying4)) (by decide)) rfl ?_
  refine Fw.q (Fw.val_move rfl) rfl ?_
  refine Fw.gFQ (d := 84) rfl rfl rfl rfl ?_
  refine Fw.gFQ (d := 84) rfl rfl rfl rfl ?_
  refine Fw.q (Fw.val_pickF rfl rfl) rfl ?_
  refine Fw.nilQ ?_
  intro w23 hb
  replace Hx := Hx.low hb
  replace Hl := Hl.low hb
  replace Hy := Hy.low hb
  replace HAg := HAg.low hb
  replace HRa := HRa.low hb
  replace Hs := Hs.low hb
  replace HB := HB.trans (hb.mono HB.size)
  clear hb
  refine hK27 _ _ (Fw.FC.sub (f' := [(87, _), (14, _), (13, _), (2, _), (3, _), (7, _), (8, _), (10, _), (36, _), (37, _), (38, _)]) (.cons rfl (.cons rfl (.cons rfl (.cons rfl (.cons rfl (.cons rfl (.cons rfl (.cons rfl (.cons rfl (.cons rfl (.cons rfl .nil))))))))))) ?_)
  refine Fw.condF rfl ?_
  refine Fw.skip ?_
  exact hK22 _ _ ⟨_, _⟩ ⟨Hx, Hl, Hs, HAg, HRa, HB⟩ (.cons rfl (.cons rfl (.cons rfl (.cons rfl (.cons rfl (.cons rfl (.cons rfl (.cons rfl (.cons rfl (.cons rfl .nil))))))))))
  refine Fw.seq fun _ hK32 => ?_
  refine Fw.region ?_
  refine Fw.s (Fw.val_fieldAddr fl65_0 rfl rfl) rfl ?_
  refine Fw.ld sc3 rfl (Hy.cell 0) rfl ?_
  refine Fw.s2 (Fw.val_bin rfl rfl Fw.b_eql) rfl ?_ ?_
  rintro hk4
  refine Fw.nil ?_
  refine hK32 _ _ ?_
  refine Fw.condT rfl ?_
  refine Fw.region ?_
  refine Fw.s (Fw.val_fieldAddr fl65_0 rfl rfl) rfl ?_
  refine Fw.store sz3 rfl rfl Hy rfl rfl rfl ?_
  intro w24 N_ hc
  replace Hx := Hx.chg hc (by omega)
  replace HAg := HAg.over hc ((Fw.Kp.refl [65] _).one hc Hy rfl) (by omega) (by omega) rfl rfl rfl rfl
  replace HRa := HRa.over hc ((Fw.Kp.refl [65] _).one hc Hy rfl) (by omega) (fun k e => by omega) rfl
  replace Hl := Hl.chg hc (by omega)
  replace HB := HB.trans (hc.below (B := w.heap.size) (fun k e => by omega) HB.size)
  clear hc
  clear Hy
  have Hy := N_
  clear N_
  replace Hy : Blk w24 gy 65 #[.int .i64 0, .int .i64 l[k].t, .int .i64 l[k].g, .int .i64 l[k].o.u, .int .i64 l[k].o.e, .int .i64 l[k].o.k, .int .i64 l[k].o.i, .int .i64 l[k].o.n] := Hy
  refine Fw.nil ?_
  exact hK19 _ _ 0 ⟨Hx, Hl, Hy, HAg, HRa, (show (0 : Int) ≠ 4 by decide), HB⟩ (.cons rfl (.cons rfl (.cons rfl (.cons rfl (.cons rfl (.cons rfl (.cons rfl (.cons rfl (.cons rfl .nil)))))))))
  rintro hk4
  refine Fw.nil ?_
  refine hK32 _ _ ?_
  refine Fw.condF rfl ?_
  refine Fw.skip ?_
  exact hK19 _ _ l[k].k ⟨Hx, Hl, Hy, HAg, HRa, hk4, HB⟩ (.cons rfl (.cons rfl (.cons rfl (.cons rfl (.cons rfl (.cons rfl (.cons rfl (.cons rfl (.cons rfl .nil)))))))))
  rintro hlt
  refine Fw.nil ?_
  refine hK13 _ _ ?_
  refine Fw.seq fun _ hK34 => ?_
  refine Fw.condF rfl ?_
  refine Fw.exit ?_
  refine Fw.X_exit ?_
  refine Fw.X_exit ?_
  refine Fw.X_block ?_
  refine hK10 _ _ (Fw.FC.sub (f' := []) .nil ?_)
  refine Fw.seq fun _ hK35 => ?_
  refine Fw.region ?_
  refine Fw.s (Fw.val_assign rfl) rfl ?_
  refine Fw.nil ?_
  refine hK35 _ _ ?_
  refine Fw.ret ?_
  refine Fw.ret_ [.tmp 6] [_] Try.results7 (.tmp rfl .nil) ?_
  exact ⟨rfl, HB⟩
  refine Fw.calls Try.func7 rfl Try.ntmps7 rfl ?_
  have HB := Below.refl (w.heap.size) w
  refine Fw.seq fun _ hK1 => ?_
  refine Fw.region ?_
  refine Fw.box rfl rfl ?_
  intro w1 gx egx Hx hb
  have lgx : w.heap.size ≤ gx := by have := HB.size; omega
  replace HB := HB.trans (hb.mono HB.size)
  clear hb
  clear egx
  refine Fw.s (Fw.val_assign rfl) rfl ?_
  refine Fw.nil ?_
  refine hK1 _ _ ?_
  refine Fw.seq fun _ hK2 => ?_
  refine Fw.region ?_
  refine Fw.ldA ag26 rfl (Fw.rdBlk Hx) rfl rfl ?_
  refine Fw.call cf21 rfl rfl (both_no _ N R Ae ce (hR.low HB) u v hm) ?_
  rintro e_ w2 ⟨q, rfl, hb⟩
  refine ⟨_, rfl, ?_⟩
  replace Hx := Hx.low hb
  replace HB := HB.trans (hb.mono HB.size)
  clear hb
  refine Fw.s (Fw.val_move rfl) rfl ?_
  refine Fw.s (Fw.val_extract rfl rfl) rfl ?_
  refine Fw.s (Fw.val_extract rfl rfl) rfl ?_
  refine Fw.s (Fw.val_extract rfl rfl) rfl ?_
  refine Fw.s (Fw.val_assign rfl) rfl ?_
  refine Fw.s (Fw.val_assign rfl) rfl ?_
  refine Fw.s (Fw.val_assign rfl) rfl ?_
  refine Fw.nil ?_
  refine hK2 _ _ (Fw.FC.sub (f' := [(9, _), (8, _), (7, _), (3, _), (1, _), (2, _)]) (.cons rfl (.cons rfl (.cons rfl (.cons rfl (.cons rfl (.cons rfl .nil)))))) ?_)
  refine Fw.seq fun _ hK3 => ?_
  refine Fw.seq fun _ hK4 => ?_
  refine Fw.region ?_
  refine Fw.call cf9 rfl rfl (awake29_any _) ?_
  rintro e_ w3 ⟨rfl, hb⟩
  refine ⟨_, rfl, ?_⟩
  replace Hx := Hx.low hb
  replace HB := HB.trans (hb.mono HB.size)
  clear hb
  refine Fw.s (Fw.val_not rfl) rfl ?_
  refine Fw.s (Fw.val_move rfl) rfl ?_
  refine Fw.gT (d := 23) rfl rfl ?_
  refine Fw.s (Fw.val_move rfl) rfl ?_
  refine Fw.gT (d := 23) rfl rfl ?_
  refine Fw.s (Fw.val_not rfl) rfl ?_
  refine Fw.s (Fw.val_pickF rfl rfl) rfl ?_
  refine Fw.s (Fw.val_move rfl) rfl ?_
  refine Fw.gF (d := 27) rfl rfl rfl rfl ?_
  refine Fw.gF (d := 27) rfl rfl rfl rfl ?_
  refine Fw.gF (d := 27) rfl rfl rfl rfl ?_
  refine Fw.s (Fw.val_pickT rfl rfl) rfl ?_
  refine Fw.nil ?_
  refine hK4 _ _ (Fw.FC.sub (f' := [(31, _), (8, _), (7, _), (3, _), (1, _), (2, _)]) (.cons rfl (.cons rfl (.cons rfl (.cons rfl (.cons rfl (.cons rfl .nil)))))) ?_)
  refine Fw.condT rfl ?_
  refine Fw.seq fun _ hK5 => ?_
  refine Fw.region ?_
  refine Fw.call cf9 rfl rfl (awake29_any _) ?_
  rintro e_ w4 ⟨rfl, hb⟩
  refine ⟨_, rfl, ?_⟩
  replace Hx := Hx.low hb
  replace HB := HB.trans (hb.mono HB.size)
  clear hb
  refine Fw.s (Fw.val_assign rfl) rfl ?_
  refine Fw.nil ?_
  refine hK5 _ _ (Fw.FC.sub (f' := [(6, _)]) (.cons rfl .nil) ?_)
  refine Fw.ret ?_
  refine Fw.X_ret ?_
  refine Fw.ret_ [.tmp 6] [_] Try.results7 (.tmp rfl .nil) ?_
  exact ⟨rfl, HB⟩

end Go.Proofs.Ytmacmlgjejdhpaa
