/- Layer 29: run; the example that the laws check first. -/
import Derived.Test.YtmacmlgjejdhpaaAi
namespace Go.Proofs.Ytmacmlgjejdhpaa
set_option linter.unusedSimpArgs false
set_option linter.unusedVariables false
open Go.RowKit

theorem RaAt.lower {w : World} {B B' q N : Nat} {E : List Rg.Ed} {u : Int} {Ae : Option Addr} {ce : Nat} {mn : Int} {mg : Or.F} (h : RaAt w B' q N E u Ae ce mn mg) (hB : B ≤ q) (hE : ELow w B Ae E) : RaAt w B q N E u Ae ce mn mg := by
  obtain ⟨h0, s, v, i, d, pp, A, c, sp, l, r, k1, k2, k3, k4, k5⟩ := h
  exact ⟨hB, s, v, i, d, pp, A, c, sp, l, r, k1, k2, k3, hE, k5⟩
set_option maxRecDepth 100000 in
set_option maxHeartbeats 4000000 in
theorem run_yes (w : World) (N : Nat) (E : List Rg.Ed) (Ae : Option Addr) (ce : Nat) (hE : Rd w Ae (E.flatMap Rg.Ed.cells)) (hn : Rg.Net N E) (u v : Int) (hu : 0 ≤ u ∧ u ≤ 255) (hv : 0 ≤ v ∧ v < N) (Al : Option Addr) (l : List Ag.Act) (cl : Nat) (hL : Rd w Al (l.flatMap Ag.Act.cells)) (hl : l.length ≤ 40) : Calls Try.prog 12 #[.agg #[.int .i64 u, .int .i64 v, .int .i64 (N : Int), .slice Ae E.length ce], .slice Al l.length cl] w fun e_ w' => ∃ p pf pg q, e_ = .returned (.tuple #[.pointer (some ⟨p, 0, none⟩), .pointer (some ⟨q, 0, none⟩)]) ∧ w.heap.size ≤ p ∧ w.heap.size ≤ pf ∧ AgAt w' p pf pg N E u (Ag.runs N E u (Ag.new u v.toNat) l) ∧ RaAt w' w.heap.size q N E u Ae ce (Ag.runs N E u (Ag.new u v.toNat) l).n (Ag.runs N E u (Ag.new u v.toNat) l).f ∧ Below w.heap.size w w' := by
  have hgood0 : Ag.Good N E u (Ag.new u v.toNat) := Ag.Good.new hn (by omega)
  refine Fw.calls Try.func12 rfl Try.ntmps12 rfl ?_
  have HB := Below.refl (w.heap.size) w
  refine Fw.seq fun _ hK1 => ?_
  refine Fw.region ?_
  refine Fw.box rfl rfl ?_
  intro w1 gx egx Hx hb
  have lw_gx : w.heap.size ≤ gx := by have := HB.size; omega
  have lgx : w.heap.size ≤ gx := by have := HB.size; omega
  replace HB := HB.trans (hb.mono HB.size)
  clear hb
  clear egx
  refine Fw.s (Fw.val_assign rfl) rfl ?_
  refine Fw.s (Fw.val_assign rfl) rfl ?_
  refine Fw.nil ?_
  refine hK1 _ _ ?_
  refine Fw.seq fun _ hK2 => ?_
  refine Fw.region ?_
  refine Fw.ldA ag26 rfl (Fw.rdBlk Hx) rfl rfl ?_
  refine Fw.call cf21 rfl rfl (both_yes _ N E Ae ce (hE.low HB) hn u v hu hv) ?_
  rintro e_ w2 ⟨p, pf, pg, q, rfl, hp, hpf, HAg, HRa, hb⟩
  refine ⟨_, rfl, ?_⟩
  have hz1 := HB.size
  replace Hx := Hx.low hb
  replace HB := HB.trans (hb.mono HB.size)
  clear hb
  have hl2 := HRa.lt
  have hl1 := HAg.lt
  refine Fw.s (Fw.val_move rfl) rfl ?_
  refine Fw.s (Fw.val_extract rfl rfl) rfl ?_
  refine Fw.s (Fw.val_extract rfl rfl) rfl ?_
  refine Fw.s (Fw.val_extract rfl rfl) rfl ?_
  refine Fw.s (Fw.val_assign rfl) rfl ?_
  refine Fw.s (Fw.val_assign rfl) rfl ?_
  refine Fw.s (Fw.val_assign rfl) rfl ?_
  refine Fw.nil ?_
  refine hK2 _ _ (Fw.FC.sub (f' := [(8, _), (7, _), (6, _), (1, _)]) (.cons rfl (.cons rfl (.cons rfl (.cons rfl .nil)))) ?_)
  refine Fw.seq fun _ hK3 => ?_
  refine Fw.seq fun _ hK4 => ?_
  refine Fw.region ?_
  refine Fw.s (Fw.val_move rfl) rfl ?_
  refine Fw.s (Fw.val_not rfl) rfl ?_
  refine Fw.s (Fw.val_move rfl) rfl ?_
  refine Fw.gT (d := 19) rfl rfl ?_
  refine Fw.s (Fw.val_move rfl) rfl ?_
  refine Fw.gT (d := 19) rfl rfl ?_
  refine Fw.s (Fw.val_bin rfl rfl (Fw.b_nilP Try.underlying33)) rfl ?_
  refine Fw.s (Fw.val_pickF rfl rfl) rfl ?_
  refine Fw.s (Fw.val_move rfl) rfl ?_
  refine Fw.gT (d := 23) rfl rfl ?_
  refine Fw.s (Fw.val_move rfl) rfl ?_
  refine Fw.gT (d := 23) rfl rfl ?_
  refine Fw.s (Fw.val_len Try.underlying38 rfl) rfl ?_
  refine Fw.gT (d := 23) rfl rfl ?_
  refine Fw.s (Fw.Val.F (Fw.val_bin rfl rfl Fw.b_gtr) (by omega)) rfl ?_
  refine Fw.s (Fw.val_pickF rfl rfl) rfl ?_
  refine Fw.nil ?_
  refine hK4 _ _ (Fw.FC.sub (f' := [(27, _), (7, _), (6, _), (1, _)]) (.cons rfl (.cons rfl (.cons rfl (.cons rfl .nil)))) ?_)
  refine Fw.condF rfl ?_
  refine Fw.skip ?_
  refine hK3 _ _ ?_
  refine Fw.seq fun _ hK5 => ?_
  refine Fw.seq fun _ hK6 => ?_
  replace HRa := HRa.lower (B := w.heap.size) (by omega) ⟨HB.size, w, Nat.le_refl _, hE, HB⟩
  refine Fw.region ?_
  refine Fw.s (Fw.val_move rfl) rfl ?_
  refine Fw.s (Fw.val_len Try.underlying38 rfl) rfl ?_
  refine Fw.s (Fw.val_move rfl) rfl ?_
  refine Fw.nil ?_
  refine hK6 _ _ ?_
  refine Fw.block ?_
  have hBq := HRa.1
  refine Fw.loop (fun m_ f_ W_ => ∃ (k : Nat), m_ = l.length - k ∧ k ≤ l.length ∧ AgAt W_ p pf pg N E u (Ag.runs N E u (Ag.new u v.toNat) (l.take k)) ∧ RaAt W_ w.heap.size q N E u Ae ce (Ag.runs N E u (Ag.new u v.toNat) (l.take k)).n (Ag.runs N E u (Ag.new u v.toNat) (l.take k)).f ∧ Below (w.heap.size) w W_ ∧ f_ = [(31, .int .i64 k), (30, .int .i64 l.length), (29, .slice Al l.length cl), (7, .pointer (some ⟨q, 0, none⟩)), (6, .pointer (some ⟨p, 0, none⟩))]) ⟨_, _, ⟨0, rfl, Nat.zero_le _, HAg, HRa, HB, rfl⟩, (.cons rfl (.cons rfl (.cons rfl (.cons rfl (.cons rfl .nil)))))⟩ ?_
  clear HAg HRa HB
  rintro m7_ _ w3 ⟨k, hm7_, hkl, HAg, HRa, HB, rfl⟩
  refine Fw.seq fun _ hK8 => ?_
  refine Fw.region ?_
  refine Fw.s2 (Fw.val_bin rfl rfl Fw.b_lss) rfl ?_ ?_
  rintro hlt
  refine Fw.nil ?_
  refine hK8 _ _ ?_
  refine Fw.seq fun _ hK10 => ?_
  refine Fw.condT rfl ?_
  refine Fw.skip ?_
  refine hK10 _ _ ?_
  refine Fw.seq fun _ hK11 => ?_
  refine Fw.block ?_
  refine Fw.seq fun _ hK12 => ?_
  have hk : k < l.length := by omega
  have hgk := hgood0.runs (l.take k)
  obtain ⟨ad, b_, o_, hA, hadd, HLe⟩ := Fw.rdAt Ag.Act.len (by decide) hL k hk
  have hl1k := HAg.lt
  have hl2k := HRa.lt
  refine Fw.region ?_
  refine Fw.s (Fw.val_indexR Try.underlying38 sz65 rfl hA rfl rfl hk hadd) rfl ?_
  refine Fw.ldA ag65 rfl ((HLe.low HB)) rfl rfl ?_
  refine Fw.alloc ze65 rfl ?_
  intro w4 gy egy Hy hb
  have na_HAg_gy : p < gy ∧ pf < gy := by have := HAg.lt; omega
  have na_HRa_gy : q < gy := by have := HRa.lt; omega
  have lw_gy : w.heap.size ≤ gy := by have := HB.size; omega
  have lgy : w.heap.size ≤ gy := by have := HB.size; omega
  replace HAg := HAg.low hb
  replace HRa := HRa.low hb
  replace HB := HB.trans (hb.mono HB.size)
  clear hb
  clear egy
  refine Fw.storeW sz65 rfl rfl Hy rfl rfl (by exact Fw.oneCells rfl) ?_
  intro w5 N_ hc
  replace HAg := HAg.over hc ((Fw.Kp.refl [65] _).one hc Hy rfl) (by omega) (by omega) rfl rfl rfl rfl
  replace HRa := HRa.over hc ((Fw.Kp.refl [65] _).one hc Hy rfl) (by omega) (fun k e => by omega) rfl
  replace HB := HB.trans (hc.below (B := w.heap.size) (fun k e => by omega) HB.size)
  clear hc
  clear Hy
  have Hy := N_
  clear N_
  replace Hy : Blk w5 gy 65 #[.int .i64 l[k].k, .int .i64 l[k].t, .int .i64 l[k].g, .int .i64 l[k].o.u, .int .i64 l[k].o.e, .int .i64 l[k].o.k, .int .i64 l[k].o.i, .int .i64 l[k].o.n] := Hy
  refine Fw.nil ?_
  refine hK12 _ _ ?_
  refine Fw.region ?_
  refine Fw.s (Fw.val_move rfl) rfl ?_
  refine Fw.s (Fw.val_move rfl) rfl ?_
  refine Fw.ldA ag65 rfl (Fw.rdBlk Hy) rfl rfl ?_
  refine Fw.call cf22 rfl rfl (do_any _ p pf pg N E u ((Ag.runs N E u (Ag.new u v.toNat) (l.take k))) w.heap.size q Ae ce (Ag.runs N E u (Ag.new u v.toNat) (l.take k)).n (Ag.runs N E u (Ag.new u v.toNat) (l.take k)).f l[k] HAg hgk HRa (by omega) (by omega)) ?_
  rintro e_ w6 ⟨bd, rfl, H2, H3, hc⟩
  refine ⟨_, rfl, ?_⟩
  replace Hy := Hy.chg hc (by omega)
  replace HB := HB.trans (hc.below (B := w.heap.size) (fun k e => by omega) HB.size)
  clear hc HAg HRa
  have HAg := H2
  have HRa := H3
  clear H2 H3
  refine Fw.nil ?_
  refine Fw.X_blockN ?_
  refine hK11 _ _ (Fw.FC.sub (f' := [(31, _), (30, _), (29, _), (7, _), (6, _)]) (.cons rfl (.cons rfl (.cons rfl (.cons rfl (.cons rfl .nil))))) ?_)
  rw [Ag.lk_act hgk, ← Ag.runs_snoc N E u _ l k hk] at HRa
  rw [← Ag.runs_snoc N E u _ l k hk] at HAg
  refine Fw.region ?_
  refine Fw.s (Fw.val_bin rfl rfl (Fw.b_add (Fw.i64_ok (by omega)))) rfl ?_
  refine Fw.s (Fw.val_move rfl) rfl ?_
  refine Fw.nil ?_
  refine Fw.roundEnd _ _ (by omega) ⟨k + 1, rfl, by omega, HAg, HRa, HB, rfl⟩ (.cons rfl (.cons rfl (.cons rfl (.cons rfl (.cons rfl .nil)))))
  rintro hlt
  refine Fw.nil ?_
  refine hK8 _ _ ?_
  refine Fw.seq fun _ hK14 => ?_
  refine Fw.condF rfl ?_
  refine Fw.exit ?_
  refine Fw.X_exit ?_
  refine Fw.X_exit ?_
  refine Fw.X_block ?_
  refine hK5 _ _ ?_
  refine Fw.seq fun _ hK15 => ?_
  refine Fw.region ?_
  refine Fw.s (Fw.val_move rfl) rfl ?_
  refine Fw.s (Fw.val_move rfl) rfl ?_
  refine Fw.s (Fw.val_assign rfl) rfl ?_
  refine Fw.s (Fw.val_assign rfl) rfl ?_
  refine Fw.nil ?_
  refine hK15 _ _ (Fw.FC.sub (f' := [(5, _), (4, _)]) (.cons rfl (.cons rfl .nil)) ?_)
  refine Fw.ret ?_
  refine Fw.ret_ [.tmp 4, .tmp 5] [_, _] Try.results12 (.tmp rfl (.tmp rfl .nil)) ?_
  have hk : k = l.length := by omega
  subst hk
  rw [List.take_length] at HAg HRa
  exact ⟨p, pf, pg, q, rfl, by omega, by omega, HAg, HRa, HB⟩

set_option maxRecDepth 100000 in
set_option maxHeartbeats 1000000 in
theorem run_no (w : World) (N : Int) (R : List Rg.Re) (Ae : Option Addr) (ce : Nat) (hR : Rd w Ae (R.flatMap Rg.Re.cells)) (u v : Int) (Al : Option Addr) (l : List Ag.Act) (cl : Nat) (hL : Rd w Al (l.flatMap Ag.Act.cells)) (hno : ¬ (MadeOk u v N R ∧ l.length ≤ 40)) : Calls Try.prog 12 #[.agg #[.int .i64 u, .int .i64 v, .int .i64 N, .slice Ae R.length ce], .slice Al l.length cl] w fun e_ w' => ∃ q, e_ = .returned (.tuple #[.pointer none, .pointer (some ⟨q, 0, none⟩)]) ∧ Below w.heap.size w w' := by
  by_cases hm : MadeOk u v N R
  have hlen : ¬ l.length ≤ 40 := fun k => hno ⟨hm, k⟩
  obtain ⟨hr, hu, hv⟩ := hm
  obtain ⟨M, E, rfl, rfl, hn⟩ := Rg.right_net hr
  rw [Rg.re_cells] at hR
  rw [List.length_map]
  refine Fw.calls Try.func12 rfl Try.ntmps12 rfl ?_
  have HB := Below.refl (w.heap.size) w
  refine Fw.seq fun _ hK1 => ?_
  refine Fw.region ?_
  refine Fw.box rfl rfl ?_
  intro w1 gx egx Hx hb
  have lgx : w.heap.size ≤ gx := by have := HB.size; omega
  replace HB := HB.trans (hb.mono HB.size)
  clear hb
  clear egx
  refine Fw.s (Fw.val_assign rfl) rfl ?_
  refine Fw.s (Fw.val_assign rfl) rfl ?_
  refine Fw.nil ?_
  refine hK1 _ _ ?_
  refine Fw.seq fun _ hK2 => ?_
  refine Fw.region ?_
  refine Fw.ldA ag26 rfl (Fw.rdBlk Hx) rfl rfl ?_
  refine Fw.call cf21 rfl rfl (both_yes _ M E Ae ce (hR.low HB) hn u v hu hv) ?_
  rintro e_ w2 ⟨p, pf, pg, q, rfl, -, -, -, -, hb⟩
  refine ⟨_, rfl, ?_⟩
  replace Hx := Hx.low hb
  replace HB := HB.trans (hb.mono HB.size)
  clear hb
  refine Fw.s (Fw.val_move rfl) rfl ?_
  refine Fw.s (Fw.val_extract rfl rfl) rfl ?_
  refine Fw.s (Fw.val_extract rfl rfl) rfl ?_
  refine Fw.s (Fw.val_extract rfl rfl) rfl ?_
  refine Fw.s (Fw.val_assign rfl) rfl ?_
  refine Fw.s (Fw.val_assign rfl) rfl ?_
  refine Fw.s (Fw.val_assign rfl) rfl ?_
  refine Fw.nil ?_
  refine hK2 _ _ (Fw.FC.sub (f' := [(8, _), (7, _), (6, _), (1, _)]) (.cons rfl (.cons rfl (.cons rfl (.cons rfl .nil)))) ?_)
  refine Fw.seq fun _ hK3 => ?_
  refine Fw.seq fun _ hK4 => ?_
  refine Fw.region ?_
  refine Fw.s (Fw.val_move rfl) rfl ?_
  refine Fw.s (Fw.val_not rfl) rfl ?_
  refine Fw.s (Fw.val_move rfl) rfl ?_
  refine Fw.gT (d := 19) rfl rfl ?_
  refine Fw.s (Fw.val_move rfl) rfl ?_
  refine Fw.gT (d := 19) rfl rfl ?_
  refine Fw.s (Fw.val_bin rfl rfl (Fw.b_nilP Try.underlying33)) rfl ?_
  refine Fw.s (Fw.val_pickF rfl rfl) rfl ?_
  refine Fw.s (Fw.val_move rfl) rfl ?_
  refine Fw.gT (d := 23) rfl rfl ?_
  refine Fw.s (Fw.val_move rfl) rfl ?_
  refine Fw.gT (d := 23) rfl rfl ?_
  refine Fw.s (Fw.val_len Try.underlying38 rfl) rfl ?_
  refine Fw.gT (d := 23) rfl rfl ?_
  refine Fw.s (Fw.Val.T (Fw.val_bin rfl rfl Fw.b_gtr) (by omega)) rfl ?_
  refine Fw.s (Fw.val_pickF rfl rfl) rfl ?_
  refine Fw.nil ?_
  refine hK4 _ _ (Fw.FC.sub (f' := [(27, _), (7, _), (6, _), (1, _)]) (.cons rfl (.cons rfl (.cons rfl (.cons rfl .nil)))) ?_)
  refine Fw.condT rfl ?_
  refine Fw.seq fun _ hK5 => ?_
  refine Fw.region ?_
  refine Fw.s (Fw.val_move rfl) rfl ?_
  refine Fw.s (Fw.val_assign rfl) rfl ?_
  refine Fw.s (Fw.val_assign rfl) rfl ?_
  refine Fw.nil ?_
  refine hK5 _ _ ?_
  refine Fw.ret ?_
  refine Fw.X_ret ?_
  refine Fw.ret_ [.tmp 4, .tmp 5] [_, _] Try.results12 (.tmp rfl (.tmp rfl .nil)) ?_
  exact ⟨q, rfl, HB⟩
  refine Fw.calls Try.func12 rfl Try.ntmps12 rfl ?_
  have HB := Below.refl (w.heap.size) w
  refine Fw.seq fun _ hK1 => ?_
  refine Fw.region ?_
  refine Fw.box rfl rfl ?_
  intro w1 gx egx Hx hb
  have lgx : w.heap.size ≤ gx := by have := HB.size; omega
  replace HB := HB.trans (hb.mono HB.size)
  clear hb
  clear egx
  refine Fw.s (Fw.val_assign rfl) rfl ?_
  refine Fw.s (Fw.val_assign rfl) rfl ?_
  refine Fw.nil ?_
  refine hK1 _ _ ?_
  refine Fw.seq fun _ hK2 => ?_
  refine Fw.region ?_
  refine Fw.ldA ag26 rfl (Fw.rdBlk Hx) rfl rfl ?_
  refine Fw.call cf21 rfl rfl (both_no _ N R Ae ce (hR.low HB) u v hm) ?_
  rintro e_ w2 ⟨q, rfl, hb⟩
  refine ⟨_, rfl, ?_⟩
  replace Hx := Hx.low hb
  replace HB := HB.trans (hb.mono HB.size)
  clear hb
  refine Fw.s (Fw.val_move rfl) rfl ?_
  refine Fw.s (Fw.val_extract rfl rfl) rfl ?_
  refine Fw.s (Fw.val_extract rfl rfl) rfl ?_
  refine Fw.s (Fw.val_extract rfl rfl) rfl ?_
  refine Fw.s (Fw.val_assign rfl) rfl ?_
  refine Fw.s (Fw.val_assign rfl) rfl ?_
  refine Fw.s (Fw.val_assign rfl) rfl ?_
  refine Fw.nil ?_
  refine hK2 _ _ (Fw.FC.sub (f' := [(8, _), (7, _), (6, _), (1, _)]) (.cons rfl (.cons rfl (.cons rfl (.cons rfl .nil)))) ?_)
  refine Fw.seq fun _ hK3 => ?_
  refine Fw.seq fun _ hK4 => ?_
  refine Fw.region ?_
  refine Fw.s (Fw.val_move rfl) rfl ?_
  refine Fw.s (Fw.val_not rfl) rfl ?_
  refine Fw.s (Fw.val_move rfl) rfl ?_
  refine Fw.gF (d := 19) rfl rfl rfl rfl ?_
  refine Fw.gF (d := 19) rfl rfl rfl rfl ?_
  refine Fw.s (Fw.val_pickT rfl rfl) rfl ?_
  refine Fw.s (Fw.val_move rfl) rfl ?_
  refine Fw.gF (d := 23) rfl rfl rfl rfl ?_
  refine Fw.gF (d := 23) rfl rfl rfl rfl ?_
  refine Fw.gF (d := 23) rfl rfl rfl rfl ?_
  refine Fw.s (Fw.val_pickT rfl rfl) rfl ?_
  refine Fw.nil ?_
  refine hK4 _ _ (Fw.FC.sub (f' := [(27, _), (7, _), (6, _), (1, _)]) (.cons rfl (.cons rfl (.cons rfl (.cons rfl .nil)))) ?_)
  refine Fw.condT rfl ?_
  refine Fw.seq fun _ hK5 => ?_
  refine Fw.region ?_
  refine Fw.s (Fw.val_move rfl) rfl ?_
  refine Fw.s (Fw.val_assign rfl) rfl ?_
  refine Fw.s (Fw.val_assign rfl) rfl ?_
  refine Fw.nil ?_
  refine hK5 _ _ ?_
  refine Fw.ret ?_
  refine Fw.X_ret ?_
  refine Fw.ret_ [.tmp 4, .tmp 5] [_, _] Try.results12 (.tmp rfl (.tmp rfl .nil)) ?_
  exact ⟨q, rfl, HB⟩

namespace Ag
def exE : List Rg.Ed := [⟨0, 1, 5⟩]
def exo : Or.O := ⟨3, 7, 1, 4, 1⟩
def exf : Or.F := ⟨3, exo, true⟩
def ex1 : Ag := ⟨3, 0, 4, 1, [0], 10, 10, nil_, 0, exf⟩
def ex2 : Ag := ⟨3, 0, 4, 1, [0], 10, 14, nil_, 0, exf⟩
def ex3 : Ag := ⟨4, 1, 4, 1, [], 15, 15, nil_, 0, exf⟩
def ex4 : Ag := ⟨4, 1, 4, 1, [], 15, 15, ⟨3, 1, 4, 1, 7⟩, 15, exf⟩
def ex5 : Ag := ⟨4, 1, 4, 1, [], 15, 23, ⟨3, 1, 4, 1, 7⟩, 15, exf⟩
def ex6 : Ag := ⟨4, 1, 4, 1, [], 15, 24, ⟨3, 2, 4, 1, 7⟩, 24, exf⟩
def ex7 : Ag := ⟨5, 1, 4, 1, [], 15, 24, ⟨3, 2, 4, 1, 7⟩, 24, exf⟩
def ex8 : Ag := ⟨1, 1, 0, 1, [], 15, 24, ⟨3, 2, 4, 1, 7⟩, 24, exf⟩
theorem ex_net : Rg.Net 2 exE := ⟨fun e he => by rw [exE, List.mem_singleton] at he; subst he; exact ⟨by decide, by decide⟩, ⟨by decide, by decide⟩, by decide, fun e he => by rw [exE, List.mem_singleton] at he; subst he; exact ⟨by decide, .inl (by decide)⟩⟩
theorem ex_way : Rg.wayOf 2 exE 0 1 = [0] := by
  have hD := Rg.distOf_spec (N := 2) (b := 1) ex_net.ok (by decide) (by decide)
  have h0 : Rg.distOf 2 exE 1 0 = 40961 := (Rg.dist_at ex_net.ok hD (by decide)).trans (by decide)
  have h1 : Rg.distOf 2 exE 1 1 = 0 := (Rg.dist_at ex_net.ok hD (by decide)).trans (by decide)
  refine (Rg.wayOf_eq (fun h => ?_) (fun _ => ?_)).symm
  rw [h0] at h; exact absurd h (by decide)
  refine .cons (by decide) ⟨⟨⟨by decide, by decide⟩, by decide, ?_, ?_⟩, fun j hj => absurd hj (by omega)⟩ .nil
  show Rg.distOf 2 exE 1 1 ≠ _; rw [h1]; decide
  show Rg.distOf 2 exE 1 0 = Rg.distOf 2 exE 1 1 + _; rw [h0, h1]; decide
theorem ex1_eq : recv 2 exE 3 (new 3 0) exo 10 = ex1 := by
  unfold recv
  rw [if_pos (by decide)]
  unfold took
  rw [if_pos (by decide), if_neg (by decide)]
  unfold turn
  rw [if_pos (by decide)]
  have e : head 2 exE { pass exE (new 3 0) 10 with s := 3, i := exo.i, f := Or.acc (pass exE (new 3 0) 10).f exo } exo.n.toNat = ex1 := by
    unfold head
    rw [if_neg (by decide)]
    show Ag.mk _ _ _ _ (Rg.wayOf 2 exE 0 1) _ _ _ _ _ = _
    rw [ex_way]; rfl
  refine (congrArg arrive e).trans ?_
  rfl
theorem ex2_eq : pass exE ex1 14 = ex2 := rfl
theorem ex2b_eq : recv 2 exE 3 ex2 ⟨3, 7, 2, 0, 0⟩ 14 = ex2 := by
  unfold recv
  rw [if_pos (by decide)]
  unfold took
  rw [if_neg (by decide)]
  rfl
theorem ex3_eq : pass exE ex2 15 = ex3 := rfl
theorem ex4_eq : report exE 3 ex3 15 9 = ex4 := rfl
theorem ex5_eq : report exE 3 ex4 23 9 = ex5 := rfl
theorem ex6_eq : report exE 3 ex5 24 9 = ex6 := rfl
theorem ex7_eq : proceed exE ex6 24 = ex7 := rfl
theorem ex8_eq : proceed exE ex7 24 = ex8 := rfl
theorem ex_good1 : Good 2 exE 3 ex1 := ex1_eq ▸ (Good.new ex_net (by decide)).recv exo 10
theorem ex_good2 : Good 2 exE 3 ex2 := ex2_eq ▸ ex_good1.pass 14
theorem ex_good3 : Good 2 exE 3 ex3 := ex3_eq ▸ ex_good2.pass 15
theorem ex_good4 : Good 2 exE 3 ex4 := ex4_eq ▸ ex_good3.report 15 9
theorem ex_good5 : Good 2 exE 3 ex5 := ex5_eq ▸ ex_good4.report 23 9
theorem ex_good6 : Good 2 exE 3 ex6 := ex6_eq ▸ ex_good5.report 24 9
theorem ex_good7 : Good 2 exE 3 ex7 := ex7_eq ▸ ex_good6.proceed 24
theorem ex_good8 : Good 2 exE 3 ex8 := ex8_eq ▸ ex_good7.proceed 24
end Ag
set_option maxRecDepth 100000 in
set_option maxHeartbeats 4000000 in
theorem awake29_any (w : World) : Calls Try.prog 9 #[] w fun e_ w' => e_ = .returned (.bool true) ∧ Below w.heap.size w w' := by
  refine Fw.calls Try.func9 rfl Try.ntmps9 rfl ?_
  have HB := Below.refl (w.heap.size) w
  refine Fw.seq fun _ hK1 => ?_
  refine Fw.region ?_
  refine Fw.s (Fw.val_assign rfl) rfl ?_
  refine Fw.nil ?_
  refine hK1 _ _ ?_
  refine Fw.seq fun _ hK2 => ?_
  refine Fw.region ?_
  refine Fw.s (Fw.val_build (ps := [(0, _), (1, _), (2, _)]) rfl (bu75_0_1_2 _ _ _)) rfl ?_
  refine Fw.buildSlice [_] sl22 rfl rfl (by exact Fw.allSz rfl) (by decide) rfl ?_
  intro w1 gS23 egS23 HS23 hb
  have lw_gS23 : w.heap.size ≤ gS23 := by have := HB.size; omega
  have lgS23 : w.heap.size ≤ gS23 := by have := HB.size; omega
  replace HB := HB.trans (hb.mono HB.size)
  clear hb
  clear egS23
  refine Fw.s (Fw.val_build (ps := [(0, _), (1, _)]) rfl (bu24_0_1 _ _ _ _)) rfl ?_
  refine Fw.s (Fw.val_build (ps := [(0, _), (2, _)]) rfl (bu26_0_2 _ _ _ _ _)) rfl ?_
  refine Fw.call cf21 rfl rfl (both_yes _ 2 Ag.exE (some ⟨gS23, 0, none⟩) 1 (Fw.rdBlk HS23) Ag.ex_net 3 0 (by decide) (by decide)) ?_
  rintro e_ w2 ⟨p, pf, pg, q, rfl, hp, hpf, HAg, -, hb⟩
  refine ⟨_, rfl, ?_⟩
  have hz1 := HB.size
  replace HS23 := HS23.low hb
  replace HB := HB.trans (hb.mono HB.size)
  clear hb
  have hl1 := HAg.lt
  clear HS23
  refine Fw.s (Fw.val_move rfl) rfl ?_
  refine Fw.s (Fw.val_extract rfl rfl) rfl ?_
  refine Fw.s (Fw.val_extract rfl rfl) rfl ?_
  refine Fw.s (Fw.val_extract rfl rfl) rfl ?_
  refine Fw.s (Fw.val_assign rfl) rfl ?_
  refine Fw.s (Fw.val_assign rfl) rfl ?_
  refine Fw.s (Fw.val_assign rfl) rfl ?_
  refine Fw.nil ?_
  refine hK2 _ _ (Fw.FC.sub (f' := [(3, _), (1, _)]) (.cons rfl (.cons rfl .nil)) ?_)
  refine Fw.seq fun _ hK3 => ?_
  refine Fw.seq fun _ hK4 => ?_
  refine Fw.region ?_
  refine Fw.s (Fw.val_move rfl) rfl ?_
  refine Fw.s (Fw.val_not rfl) rfl ?_
  refine Fw.s (Fw.val_move rfl) rfl ?_
  refine Fw.gT (d := 32) rfl rfl ?_
  refine Fw.s (Fw.val_move rfl) rfl ?_
  refine Fw.gT (d := 32) rfl rfl ?_
  refine Fw.s (Fw.val_bin rfl rfl (Fw.b_nilP Try.underlying33)) rfl ?_
  refine Fw.s (Fw.val_pickF rfl rfl) rfl ?_
  refine Fw.nil ?_
  refine hK4 _ _ ?_
  refine Fw.condF rfl ?_
  refine Fw.skip ?_
  refine hK3 _ _ (Fw.FC.sub (f' := [(1, _)]) (.cons rfl .nil) ?_)
  refine Fw.seq fun _ hK5 => ?_
  refine Fw.region ?_
  refine Fw.s (Fw.val_move rfl) rfl ?_
  refine Fw.s (Fw.val_build (ps := [(0, _), (1, _), (2, _), (3, _), (4, _)]) rfl (bu43_0_1_2_3_4 _ _ _ _ _)) rfl ?_
  refine Fw.call cf19 rfl rfl (receive_any _ p pf pg 2 Ag.exE 3 (Ag.new 3 0) HAg (Ag.Good.new Ag.ex_net (by decide)) Ag.exo 10) ?_
  rintro e_ w3 ⟨rfl, H2, hc⟩
  refine ⟨_, rfl, ?_⟩
  rw [Ag.ex1_eq] at H2
  have hc2 : Chg (fun k => k = p ∨ k = pf) w2 w3 := hc
  clear hc
  replace HB := HB.trans (hc2.below (B := w.heap.size) (fun k e => by omega) HB.size)
  clear hc2 HAg
  have HAg := H2
  clear H2
  refine Fw.s (Fw.val_move rfl) rfl ?_
  refine Fw.s (Fw.val_extract rfl rfl) rfl ?_
  refine Fw.s (Fw.val_extract rfl rfl) rfl ?_
  refine Fw.s (Fw.val_assign rfl) rfl ?_
  refine Fw.s (Fw.val_assign rfl) rfl ?_
  refine Fw.nil ?_
  refine hK5 _ _ ?_
  refine Fw.seq fun _ hK6 => ?_
  refine Fw.region ?_
  refine Fw.s (Fw.val_move rfl) rfl ?_
  refine Fw.call cf13 rfl rfl (advance_any _ p pf pg 2 Ag.exE 3 Ag.ex1 HAg Ag.ex_good1 14) ?_
  rintro e_ w4 ⟨rfl, H2, hc⟩
  refine ⟨_, rfl, ?_⟩
  rw [Ag.ex2_eq] at H2
  have hc2 : Chg (fun k => k = p ∨ k = pf) w3 w4 := Chg.wk hc (fun _ e => .inl e)
  clear hc
  replace HB := HB.trans (hc2.below (B := w.heap.size) (fun k e => by omega) HB.size)
  clear hc2 HAg
  have HAg := H2
  clear H2
  refine Fw.nil ?_
  refine hK6 _ _ (Fw.FC.sub (f' := [(5, _), (4, _), (1, _)]) (.cons rfl (.cons rfl (.cons rfl .nil))) ?_)
  refine Fw.seq fun _ hK7 => ?_
  refine Fw.region ?_
  refine Fw.s (Fw.val_move rfl) rfl ?_
  refine Fw.call cf14 rfl rfl (agState_any _ p pf pg 2 Ag.exE 3 (Ag.ex2) HAg) ?_
  rintro e_ _ ⟨rfl, rfl⟩
  refine ⟨_, rfl, ?_⟩
  refine Fw.s (Fw.val_move rfl) rfl ?_
  refine Fw.call cf15 rfl rfl (agNode_any _ p pf pg 2 Ag.exE 3 (Ag.ex2) HAg) ?_
  rintro e_ _ ⟨rfl, rfl⟩
  refine ⟨_, rfl, ?_⟩
  refine Fw.s (Fw.val_assign rfl) rfl ?_
  refine Fw.s (Fw.val_assign rfl) rfl ?_
  refine Fw.nil ?_
  refine hK7 _ _ ?_
  refine Fw.seq fun _ hK8 => ?_
  refine Fw.region ?_
  refine Fw.s (Fw.val_move rfl) rfl ?_
  refine Fw.s (Fw.val_build (ps := [(0, _), (1, _), (2, _)]) rfl (bu43_0_1_2 _ _ _)) rfl ?_
  refine Fw.call cf19 rfl rfl (receive_any _ p pf pg 2 Ag.exE 3 Ag.ex2 HAg Ag.ex_good2 ⟨3, 7, 2, 0, 0⟩ 14) ?_
  rintro e_ w5 ⟨rfl, H2, hc⟩
  refine ⟨_, rfl, ?_⟩
  rw [Ag.ex2b_eq] at H2
  have hc2 : Chg (fun k => k = p ∨ k = pf) w4 w5 := hc
  clear hc
  replace HB := HB.trans (hc2.below (B := w.heap.size) (fun k e => by omega) HB.size)
  clear hc2 HAg
  have HAg := H2
  clear H2
  refine Fw.s (Fw.val_move rfl) rfl ?_
  refine Fw.s (Fw.val_extract rfl rfl) rfl ?_
  refine Fw.s (Fw.val_extract rfl rfl) rfl ?_
  refine Fw.s (Fw.val_assign rfl) rfl ?_
  refine Fw.s (Fw.val_assign rfl) rfl ?_
  refine Fw.nil ?_
  refine hK8 _ _ (Fw.FC.sub (f' := [(9, _), (8, _), (7, _), (6, _), (5, _), (4, _), (1, _)]) (.cons rfl (.cons rfl (.cons rfl (.cons rfl (.cons rfl (.cons rfl (.cons rfl .nil))))))) ?_)
  refine Fw.seq fun _ hK9 => ?_
  refine Fw.region ?_
  refine Fw.s (Fw.val_move rfl) rfl ?_
  refine Fw.call cf13 rfl rfl (advance_any _ p pf pg 2 Ag.exE 3 Ag.ex2 HAg Ag.ex_good2 15) ?_
  rintro e_ w6 ⟨rfl, H2, hc⟩
  refine ⟨_, rfl, ?_⟩
  rw [Ag.ex3_eq] at H2
  have hc2 : Chg (fun k => k = p ∨ k = pf) w5 w6 := Chg.wk hc (fun _ e => .inl e)
  clear hc
  replace HB := HB.trans (hc2.below (B := w.heap.size) (fun k e => by omega) HB.size)
  clear hc2 HAg
  have HAg := H2
  clear H2
  refine Fw.nil ?_
  refine hK9 _ _ ?_
  refine Fw.seq fun _ hK10 => ?_
  refine Fw.region ?_
  refine Fw.s (Fw.val_move rfl) rfl ?_
  refine Fw.call cf14 rfl rfl (agState_any _ p pf pg 2 Ag.exE 3 (Ag.ex3) HAg) ?_
  rintro e_ _ ⟨rfl, rfl⟩
  refine ⟨_, rfl, ?_⟩
  refine Fw.s (Fw.val_move rfl) rfl ?_
  refine Fw.call cf15 rfl rfl (agNode_any _ p pf pg 2 Ag.exE 3 (Ag.ex3) HAg) ?_
  rintro e_ _ ⟨rfl, rfl⟩
  refine ⟨_, rfl, ?_⟩
  refine Fw.s (Fw.val_assign rfl) rfl ?_
  refine Fw.s (Fw.val_assign rfl) rfl ?_
  refine Fw.nil ?_
  refine hK10 _ _ ?_
  refine Fw.seq fun _ hK11 => ?_
  refine Fw.region ?_
  refine Fw.s (Fw.val_move rfl) rfl ?_
  refine Fw.call cf23 rfl rfl (report_any _ p pf pg 2 Ag.exE 3 Ag.ex3 HAg Ag.ex_good3 15 9) ?_
  rintro e_ w7 ⟨rfl, H2, hc⟩
  refine ⟨_, rfl, ?_⟩
  rw [Ag.ex4_eq] at H2
  have hc2 : Chg (fun k => k = p ∨ k = pf) w6 w7 := Chg.wk hc (fun _ e => .inl e)
  clear hc
  replace HB := HB.trans (hc2.below (B := w.heap.size) (fun k e => by omega) HB.size)
  clear hc2 HAg
  have HAg := H2
  clear H2
  refine Fw.s (Fw.val_move rfl) rfl ?_
  refine Fw.s (Fw.val_extract rfl rfl) rfl ?_
  refine Fw.s (Fw.val_extract rfl rfl) rfl ?_
  refine Fw.alloc ze48 rfl ?_
  intro w8 gy egy Hy hb
  have na_HAg_gy : p < gy ∧ pf < gy := by have := HAg.lt; omega
  have lw_gy : w.heap.size ≤ gy := by have := HB.size; omega
  have lgy : w.heap.size ≤ gy := by have := HB.size; omega
  replace HAg := HAg.low hb
  replace HB := HB.trans (hb.mono HB.size)
  clear hb
  clear egy
  refine Fw.storeW sz48 rfl rfl Hy rfl rfl (by exact Fw.oneCells rfl) ?_
  intro w9 N_ hc
  replace HAg := HAg.over hc ((Fw.Kp.refl [48] _).one hc Hy rfl) (by omega) (by omega) rfl rfl rfl rfl
  replace HB := HB.trans (hc.below (B := w.heap.size) (fun k e => by omega) HB.size)
  clear hc
  clear Hy
  have Hy := N_
  clear N_
  replace Hy : Blk w9 gy 48 #[.int .i64 3, .int .i64 1, .int .i64 4, .int .i64 1, .int .i64 7] := Hy
  refine Fw.s (Fw.val_assign rfl) rfl ?_
  refine Fw.nil ?_
  refine hK11 _ _ (Fw.FC.sub (f' := [(13, _), (12, _), (11, _), (10, _), (9, _), (8, _), (7, _), (6, _), (5, _), (4, _), (1, _)]) (.cons rfl (.cons rfl (.cons rfl (.cons rfl (.cons rfl (.cons rfl (.cons rfl (.cons rfl (.cons rfl (.cons rfl (.cons rfl .nil))))))))))) ?_)
  refine Fw.seq fun _ hK12 => ?_
  refine Fw.region ?_
  refine Fw.s (Fw.val_move rfl) rfl ?_
  refine Fw.call cf23 rfl rfl (report_any _ p pf pg 2 Ag.exE 3 Ag.ex4 HAg Ag.ex_good4 23 9) ?_
  rintro e_ w10 ⟨rfl, H2, hc⟩
  refine ⟨_, rfl, ?_⟩
  rw [Ag.ex5_eq] at H2
  have hc2 : Chg (fun k => k = p ∨ k = pf) w9 w10 := Chg.wk hc (fun _ e => .inl e)
  clear hc
  replace Hy := Hy.chg hc2 (by omega)
  replace HB := HB.trans (hc2.below (B := w.heap.size) (fun k e => by omega) HB.size)
  clear hc2 HAg
  have HAg := H2
  clear H2
  refine Fw.s (Fw.val_move rfl) rfl ?_
  refine Fw.s (Fw.val_extract rfl rfl) rfl ?_
  refine Fw.s (Fw.val_extract rfl rfl) rfl ?_
  refine Fw.alloc ze48 rfl ?_
  intro w11 gy2 egy2 Hy2 hb
  have n_gy_gy2 : gy < gy2 := by have := Hy.lt; omega
  have na_HAg_gy2 : p < gy2 ∧ pf < gy2 := by have := HAg.lt; omega
  have lw_gy2 : w.heap.size ≤ gy2 := by have := HB.size; omega
  have lgy2 : w.heap.size ≤ gy2 := by have := HB.size; omega
  replace HAg := HAg.low hb
  replace Hy := Hy.low hb
  replace HB := HB.trans (hb.mono HB.size)
  clear hb
  clear egy2
  refine Fw.storeW sz48 rfl rfl Hy2 rfl rfl (by exact Fw.oneCells rfl) ?_
  intro w12 N_ hc
  replace HAg := HAg.over hc ((Fw.Kp.refl [48] _).one hc Hy2 rfl) (by omega) (by omega) rfl rfl rfl rfl
  replace Hy := Hy.chg hc (by omega)
  replace HB := HB.trans (hc.below (B := w.heap.size) (fun k e => by omega) HB.size)
  clear hc
  clear Hy2
  have Hy2 := N_
  clear N_
  replace Hy2 : Blk w12 gy2 48 #[.int .i64 0, .int .i64 0, .int .i64 0, .int .i64 0, .int .i64 0] := Hy2
  refine Fw.s (Fw.val_assign rfl) rfl ?_
  refine Fw.nil ?_
  refine hK12 _ _ ?_
  refine Fw.seq fun _ hK13 => ?_
  refine Fw.region ?_
  refine Fw.s (Fw.val_move rfl) rfl ?_
  refine Fw.call cf23 rfl rfl (report_any _ p pf pg 2 Ag.exE 3 Ag.ex5 HAg Ag.ex_good5 24 9) ?_
  rintro e_ w13 ⟨rfl, H2, hc⟩
  refine ⟨_, rfl, ?_⟩
  rw [Ag.ex6_eq] at H2
  have hc2 : Chg (fun k => k = p ∨ k = pf) w12 w13 := Chg.wk hc (fun _ e => .inl e)
  clear hc
  replace Hy := Hy.chg hc2 (by omega)
  replace Hy2 := Hy2.chg hc2 (by omega)
  replace HB := HB.trans (hc2.below (B := w.heap.size) (fun k e => by omega) HB.size)
  clear hc2 HAg
  have HAg := H2
  clear H2
  refine Fw.s (Fw.val_move rfl) rfl ?_
  refine Fw.s (Fw.val_extract rfl rfl) rfl ?_
  refine Fw.s (Fw.val_extract rfl rfl) rfl ?_
  refine Fw.alloc ze48 rfl ?_
  intro w14 gy3 egy3 Hy3 hb
  have n_gy_gy3 : gy < gy3 := by have := Hy.lt; omega
  have n_gy2_gy3 : gy2 < gy3 := by have := Hy2.lt; omega
  have na_HAg_gy3 : p < gy3 ∧ pf < gy3 := by have := HAg.lt; omega
  have lw_gy3 : w.heap.size ≤ gy3 := by have := HB.size; omega
  have lgy3 : w.heap.size ≤ gy3 := by have := HB.size; omega
  replace HAg := HAg.low hb
  replace Hy := Hy.low hb
  replace Hy2 := Hy2.low hb
  replace HB := HB.trans (hb.mono HB.size)
  clear hb
  clear egy3
  refine Fw.storeW sz48 rfl rfl Hy3 rfl rfl (by exact Fw.oneCells rfl) ?_
  intro w15 N_ hc
  replace HAg := HAg.over hc ((Fw.Kp.refl [48] _).one hc Hy3 rfl) (by omega) (by omega) rfl rfl rfl rfl
  replace Hy := Hy.chg hc (by omega)
  replace Hy2 := Hy2.chg hc (by omega)
  replace HB := HB.trans (hc.below (B := w.heap.size) (fun k e => by omega) HB.size)
  clear hc
  clear Hy3
  have Hy3 := N_
  clear N_
  replace Hy3 : Blk w15 gy3 48 #[.int .i64 3, .int .i64 2, .int .i64 4, .int .i64 1, .int .i64 7] := Hy3
  refine Fw.s (Fw.val_assign rfl) rfl ?_
  refine Fw.nil ?_
  refine hK13 _ _ (Fw.FC.sub (f' := [(17, _), (15, _), (13, _), (12, _), (11, _), (10, _), (9, _), (8, _), (7, _), (6, _), (5, _), (4, _), (1, _)]) (.cons rfl (.cons rfl (.cons rfl (.cons rfl (.cons rfl (.cons rfl (.cons rfl (.cons rfl (.cons rfl (.cons rfl (.cons rfl (.cons rfl (.cons rfl .nil))))))))))))) ?_)
  refine Fw.seq fun _ hK14 => ?_
  refine Fw.region ?_
  refine Fw.s (Fw.val_move rfl) rfl ?_
  refine Fw.call cf26 rfl rfl (proceed_any _ p pf pg 2 Ag.exE 3 Ag.ex6 HAg Ag.ex_good6 24) ?_
  rintro e_ w16 ⟨rfl, H2, hc⟩
  refine ⟨_, rfl, ?_⟩
  rw [Ag.ex7_eq] at H2
  have hc2 : Chg (fun k => k = p ∨ k = pf) w15 w16 := Chg.wk hc (fun _ e => .inl e)
  clear hc
  replace Hy := Hy.chg hc2 (by omega)
  replace Hy2 := Hy2.chg hc2 (by omega)
  replace Hy3 := Hy3.chg hc2 (by omega)
  replace HB := HB.trans (hc2.below (B := w.heap.size) (fun k e => by omega) HB.size)
  clear hc2 HAg
  have HAg := H2
  clear H2
  refine Fw.s (Fw.val_assign rfl) rfl ?_
  refine Fw.nil ?_
  refine hK14 _ _ ?_
  refine Fw.seq fun _ hK15 => ?_
  refine Fw.region ?_
  refine Fw.s (Fw.val_move rfl) rfl ?_
  refine Fw.call cf14 rfl rfl (agState_any _ p pf pg 2 Ag.exE 3 (Ag.ex7) HAg) ?_
  rintro e_ _ ⟨rfl, rfl⟩
  refine ⟨_, rfl, ?_⟩
  refine Fw.s (Fw.val_assign rfl) rfl ?_
  refine Fw.nil ?_
  refine hK15 _ _ ?_
  refine Fw.seq fun _ hK16 => ?_
  refine Fw.region ?_
  refine Fw.s (Fw.val_move rfl) rfl ?_
  refine Fw.call cf26 rfl rfl (proceed_any _ p pf pg 2 Ag.exE 3 Ag.ex7 HAg Ag.ex_good7 24) ?_
  rintro e_ w17 ⟨rfl, H2, hc⟩
  refine ⟨_, rfl, ?_⟩
  rw [Ag.ex8_eq] at H2
  have hc2 : Chg (fun k => k = p ∨ k = pf) w16 w17 := Chg.wk hc (fun _ e => .inl e)
  clear hc
  replace Hy := Hy.chg hc2 (by omega)
  replace Hy2 := Hy2.chg hc2 (by omega)
  replace Hy3 := Hy3.chg hc2 (by omega)
  replace HB := HB.trans (hc2.below (B := w.heap.size) (fun k e => by omega) HB.size)
  clear hc2 HAg
  have HAg := H2
  clear H2
  refine Fw.s (Fw.val_assign rfl) rfl ?_
  refine Fw.nil ?_
  refine hK16 _ _ ?_
  refine Fw.seq fun _ hK17 => ?_
  refine Fw.region ?_
  refine Fw.s (Fw.val_move rfl) rfl ?_
  refine Fw.s (Fw.val_move rfl) rfl ?_
  refine Fw.gT (d := 82) rfl rfl ?_
  refine Fw.s (Fw.val_move rfl) rfl ?_
  refine Fw.gT (d := 82) rfl rfl ?_
  refine Fw.s (Fw.Val.T (Fw.val_bin rfl rfl Fw.b_eql) (by rfl)) rfl ?_
  refine Fw.s (Fw.val_pickT rfl rfl) rfl ?_
  refine Fw.s (Fw.val_move rfl) rfl ?_
  refine Fw.gT (d := 86) rfl rfl ?_
  refine Fw.s (Fw.val_move rfl) rfl ?_
  refine Fw.gT (d := 86) rfl rfl ?_
  refine Fw.s (Fw.Val.T (Fw.val_bin rfl rfl Fw.b_eql) (by rfl)) rfl ?_
  refine Fw.s (Fw.val_pickT rfl rfl) rfl ?_
  refine Fw.s (Fw.val_move rfl) rfl ?_
  refine Fw.gT (d := 90) rfl rfl ?_
  refine Fw.s (Fw.val_move rfl) rfl ?_
  refine Fw.gT (d := 90) rfl rfl ?_
  refine Fw.s (Fw.Val.T (Fw.val_bin rfl rfl Fw.b_eql) (by rfl)) rfl ?_
  refine Fw.s (Fw.val_pickT rfl rfl) rfl ?_
  refine Fw.s (Fw.val_move rfl) rfl ?_
  refine Fw.gT (d := 94) rfl rfl ?_
  refine Fw.s (Fw.val_move rfl) rfl ?_
  refine Fw.gT (d := 94) rfl rfl ?_
  refine Fw.s (Fw.val_not rfl) rfl ?_
  refine Fw.s (Fw.val_pickT rfl rfl) rfl ?_
  refine Fw.s (Fw.val_move rfl) rfl ?_
  refine Fw.gT (d := 98) rfl rfl ?_
  refine Fw.s (Fw.val_move rfl) rfl ?_
  refine Fw.gT (d := 98) rfl rfl ?_
  refine Fw.s (Fw.Val.T (Fw.val_bin rfl rfl Fw.b_eql) (by rfl)) rfl ?_
  refine Fw.s (Fw.val_pickT rfl rfl) rfl ?_
  refine Fw.s (Fw.val_move rfl) rfl ?_
  refine Fw.gT (d := 102) rfl rfl ?_
  refine Fw.s (Fw.val_move rfl) rfl ?_
  refine Fw.gT (d := 102) rfl rfl ?_
  refine Fw.s (Fw.Val.T (Fw.val_bin rfl rfl Fw.b_eql) (by rfl)) rfl ?_
  refine Fw.s (Fw.val_pickT rfl rfl) rfl ?_
  refine Fw.s (Fw.val_move rfl) rfl ?_
  refine Fw.gT (d := 106) rfl rfl ?_
  refine Fw.s (Fw.val_move rfl) rfl ?_
  refine Fw.gT (d := 106) rfl rfl ?_
  refine Fw.s (Fw.Val.T (Fw.val_bin rfl rfl Fw.b_eql) (by rfl)) rfl ?_
  refine Fw.s (Fw.val_pickT rfl rfl) rfl ?_
  refine Fw.s (Fw.val_move rfl) rfl ?_
  refine Fw.gT (d := 110) rfl rfl ?_
  refine Fw.s (Fw.val_move rfl) rfl ?_
  refine Fw.s (Fw.val_pickT rfl rfl) rfl ?_
  refine Fw.s (Fw.val_move rfl) rfl ?_
  refine Fw.gT (d := 113) rfl rfl ?_
  refine Fw.ldA ag48 rfl (Fw.rdBlk Hy) rfl rfl ?_
  refine Fw.gT (d := 113) rfl rfl ?_
  refine Fw.s (Fw.val_build (ps := [(0, _), (1, _), (2, _), (3, _), (4, _)]) rfl (bu48_0_1_2_3_4 _ _ _ _ _)) rfl ?_
  refine Fw.gT (d := 113) rfl rfl ?_
  refine Fw.s (Fw.Val.T (Fw.val_bin rfl rfl (Fw.b_eqlA eq48 [3, 1, 4, 1, 7] [3, 1, 4, 1, 7] rfl rfl)) (by rfl)) rfl ?_
  refine Fw.s (Fw.val_pickT rfl rfl) rfl ?_
  refine Fw.s (Fw.val_move rfl) rfl ?_
  refine Fw.gT (d := 118) rfl rfl ?_
  refine Fw.s (Fw.val_move rfl) rfl ?_
  refine Fw.gT (d := 118) rfl rfl ?_
  refine Fw.s (Fw.val_not rfl) rfl ?_
  refine Fw.s (Fw.val_pickT rfl rfl) rfl ?_
  refine Fw.s (Fw.val_move rfl) rfl ?_
  refine Fw.gT (d := 122) rfl rfl ?_
  refine Fw.s (Fw.val_move rfl) rfl ?_
  refine Fw.s (Fw.val_pickT rfl rfl) rfl ?_
  refine Fw.s (Fw.val_move rfl) rfl ?_
  refine Fw.gT (d := 125) rfl rfl ?_
  refine Fw.s (Fw.val_move rfl) rfl ?_
  refine Fw.gT (d := 125) rfl rfl ?_
  refine Fw.s (Fw.Val.T (Fw.val_bin rfl rfl Fw.b_eql) (by rfl)) rfl ?_
  refine Fw.s (Fw.val_pickT rfl rfl) rfl ?_
  refine Fw.s (Fw.val_move rfl) rfl ?_
  refine Fw.gT (d := 129) rfl rfl ?_
  refine Fw.s (Fw.val_move rfl) rfl ?_
  refine Fw.gT (d := 129) rfl rfl ?_
  refine Fw.s (Fw.Val.T (Fw.val_bin rfl rfl Fw.b_eql) (by rfl)) rfl ?_
  refine Fw.s (Fw.val_pickT rfl rfl) rfl ?_
  refine Fw.s (Fw.val_move rfl) rfl ?_
  refine Fw.gT (d := 133) rfl rfl ?_
  refine Fw.s (Fw.val_move rfl) rfl ?_
  refine Fw.gT (d := 133) rfl rfl ?_
  refine Fw.s (Fw.Val.T (Fw.val_bin rfl rfl Fw.b_eql) (by rfl)) rfl ?_
  refine Fw.s (Fw.val_pickT rfl rfl) rfl ?_
  refine Fw.s (Fw.val_move rfl) rfl ?_
  refine Fw.gT (d := 137) rfl rfl ?_
  refine Fw.s (Fw.val_move rfl) rfl ?_
  refine Fw.gT (d := 137) rfl rfl ?_
  refine Fw.call cf14 rfl rfl (agState_any _ p pf pg 2 Ag.exE 3 (Ag.ex8) HAg) ?_
  rintro e_ _ ⟨rfl, rfl⟩
  refine ⟨_, rfl, ?_⟩
  refine Fw.gT (d := 137) rfl rfl ?_
  refine Fw.s (Fw.Val.T (Fw.val_bin rfl rfl Fw.b_eql) (by rfl)) rfl ?_
  refine Fw.s (Fw.val_pickT rfl rfl) rfl ?_
  refine Fw.s (Fw.val_move rfl) rfl ?_
  refine Fw.gT (d := 142) rfl rfl ?_
  refine Fw.s (Fw.val_move rfl) rfl ?_
  refine Fw.gT (d := 142) rfl rfl ?_
  refine Fw.call cf16 rfl rfl (agIncident_any _ p pf pg 2 Ag.exE 3 (Ag.ex8) HAg) ?_
  rintro e_ _ ⟨rfl, rfl⟩
  refine ⟨_, rfl, ?_⟩
  refine Fw.gT (d := 142) rfl rfl ?_
  refine Fw.s (Fw.Val.T (Fw.val_bin rfl rfl Fw.b_eql) (by rfl)) rfl ?_
  refine Fw.s (Fw.val_pickT rfl rfl) rfl ?_
  refine Fw.s (Fw.val_move rfl) rfl ?_
  refine Fw.gT (d := 147) rfl rfl ?_
  refine Fw.s (Fw.val_move rfl) rfl ?_
  refine Fw.gT (d := 147) rfl rfl ?_
  refine Fw.call cf26 rfl rfl (proceed_any _ p pf pg 2 Ag.exE 3 Ag.ex8 HAg Ag.ex_good8 24) ?_
  rintro e_ w18 ⟨rfl, H2, hc⟩
  refine ⟨_, rfl, ?_⟩
  rw [(rfl : Ag.proceed Ag.exE Ag.ex8 24 = Ag.ex8)] at H2
  have hc2 : Chg (fun k => k = p ∨ k = pf) w17 w18 := Chg.wk hc (fun _ e => .inl e)
  clear hc
  replace Hy := Hy.chg hc2 (by omega)
  replace Hy2 := Hy2.chg hc2 (by omega)
  replace Hy3 := Hy3.chg hc2 (by omega)
  replace HB := HB.trans (hc2.below (B := w.heap.size) (fun k e => by omega) HB.size)
  clear hc2 HAg
  have HAg := H2
  clear H2
  refine Fw.gT (d := 147) rfl rfl ?_
  refine Fw.s (Fw.Val.T (Fw.val_bin rfl rfl Fw.b_eql) (by rfl)) rfl ?_
  refine Fw.s (Fw.val_pickT rfl rfl) rfl ?_
  refine Fw.s (Fw.val_assign rfl) rfl ?_
  refine Fw.nil ?_
  refine hK17 _ _ (Fw.FC.sub (f' := [(0, _)]) (.cons rfl .nil) ?_)
  refine Fw.ret ?_
  refine Fw.ret_ [.tmp 0] [_] Try.results9 (.tmp rfl .nil) ?_
  exact ⟨rfl, HB⟩

end Go.Proofs.Ytmacmlgjejdhpaa
