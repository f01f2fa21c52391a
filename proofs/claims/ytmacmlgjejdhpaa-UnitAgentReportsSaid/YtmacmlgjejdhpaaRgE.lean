/- Layer 9: From, To, Verify, and the reference's distances. -/
import Derived.Test.YtmacmlgjejdhpaaRgD
namespace Go.Proofs.Ytmacmlgjejdhpaa
set_option linter.unusedSimpArgs false
set_option linter.unusedVariables false
open Go.RowKit

namespace Rg
theorem wok (E : List Ed) (ts : List Int) : WOk E.length 1048576 (tts E.length ts) := ⟨tts_len _ _, fun i hi => by rw [tts_ix _ hi]; exact tt_bd ts i⟩
theorem nk {N : Nat} (h : N ≤ 12) : (N : Int) * (N * 1048576 + 1) ≤ 8796093022208 := by
  have h1 : (N : Int) * 1048576 + 1 ≤ 12582913 := by omega
  have h2 : (N : Int) * (N * 1048576 + 1) ≤ N * 12582913 := Int.mul_le_mul_of_nonneg_left h1 (by omega)
  omega
theorem eq_all {l l' : List Int} {k : Nat} (h : l.take k = l'.take k) (h1 : l.length ≤ k) (h2 : l'.length ≤ k) : l = l' := by
  rwa [List.take_of_length_le h1, List.take_of_length_le h2] at h
/-- arcs of a graph with the given travel times -/
abbrev arcT (N : Nat) (E : List Ed) (ts : List Int) (fwd : Bool) : Sp.Arcs := arcs N E (tts E.length ts) fwd
theorem arcT_ok {N : Nat} {E : List Ed} (ts : List Int) (fwd : Bool) (hE : EOk N E) : (arcT N E ts fwd).Ok 1048576 := arcs_ok hE (wok E ts)
end Rg
set_option maxRecDepth 100000 in
set_option maxHeartbeats 1000000 in
theorem never_any (w : World) : Calls Try.prog 42 #[] w fun e_ w' => e_ = .returned (.int .i64 4611686018427387904) ∧ w = w' := by
  refine Fw.calls Try.func42 rfl Try.ntmps42 rfl ?_
  refine Fw.seq fun _ hK1 => ?_
  refine Fw.region ?_
  refine Fw.s (Fw.val_assign rfl) rfl ?_
  refine Fw.nil ?_
  refine hK1 _ _ ?_
  refine Fw.seq fun _ hK2 => ?_
  refine Fw.region ?_
  refine Fw.s (Fw.val_assign rfl) rfl ?_
  refine Fw.nil ?_
  refine hK2 _ _ ?_
  refine Fw.ret ?_
  refine Fw.ret_ [.tmp 0] [_] Try.results42 (.tmp rfl .nil) ?_
  exact ⟨rfl, rfl⟩

set_option maxRecDepth 100000 in
set_option maxHeartbeats 1000000 in
theorem time_any (w : World) (A : Option Addr) (ts : List Int) (c : Nat) (h : Rd w A (ts.map (.int .i64))) (i : Nat) : Calls Try.prog 74 #[.slice A ts.length c, .int .i64 i] w fun e_ w' => e_ = .returned (.int .i64 (Rg.tt ts i)) ∧ w = w' := by
  by_cases hi : i < ts.length
  obtain ⟨ad, b, o, hA, hadd, HE⟩ := Fw.rdAtM h i hi
  refine Fw.calls Try.func74 rfl Try.ntmps74 rfl ?_
  refine Fw.seq fun _ hK1 => ?_
  refine Fw.region ?_
  refine Fw.s (Fw.val_assign rfl) rfl ?_
  refine Fw.nil ?_
  refine hK1 _ _ ?_
  refine Fw.seq fun _ hK2 => ?_
  refine Fw.seq fun _ hK3 => ?_
  refine Fw.region ?_
  refine Fw.s (Fw.val_move rfl) rfl ?_
  refine Fw.s (Fw.val_move rfl) rfl ?_
  refine Fw.s (Fw.val_len Try.underlying100 rfl) rfl ?_
  refine Fw.s (Fw.Val.F (Fw.val_bin rfl rfl Fw.b_geq) (by omega)) rfl ?_
  refine Fw.s (Fw.val_move rfl) rfl ?_
  refine Fw.gT (d := 9) rfl rfl ?_
  refine Fw.s (Fw.val_move rfl) rfl ?_
  refine Fw.gT (d := 9) rfl rfl ?_
  refine Fw.s (Fw.val_move rfl) rfl ?_
  refine Fw.gT (d := 9) rfl rfl ?_
  refine Fw.s (Fw.val_indexR Try.underlying100 sz2 rfl hA rfl rfl hi hadd) rfl ?_
  refine Fw.gT (d := 9) rfl rfl ?_
  refine Fw.ld sc2 rfl (HE) rfl ?_
  refine Fw.gT (d := 9) rfl rfl ?_
  refine Fw.s2 (Fw.val_bin rfl rfl Fw.b_lss) rfl ?_ ?_
  rintro h1
  refine Fw.s (Fw.val_pickF rfl rfl) rfl ?_
  refine Fw.s (Fw.val_move rfl) rfl ?_
  refine Fw.gF (d := 16) rfl rfl rfl rfl ?_
  refine Fw.gF (d := 16) rfl rfl rfl rfl ?_
  refine Fw.gF (d := 16) rfl rfl rfl rfl ?_
  refine Fw.gF (d := 16) rfl rfl rfl rfl ?_
  refine Fw.gF (d := 16) rfl rfl rfl rfl ?_
  refine Fw.s (Fw.val_pickT rfl rfl) rfl ?_
  refine Fw.nil ?_
  refine hK3 _ _ (Fw.FC.sub (f' := [(22, _), (0, _), (1, _)]) (.cons rfl (.cons rfl (.cons rfl .nil))) ?_)
  refine Fw.condT rfl ?_
  refine Fw.seq fun _ hK6 => ?_
  refine Fw.region ?_
  refine Fw.call cf42 rfl rfl (never_any _) ?_
  rintro e_ _ ⟨rfl, rfl⟩
  refine ⟨_, rfl, ?_⟩
  refine Fw.s (Fw.val_assign rfl) rfl ?_
  refine Fw.nil ?_
  refine hK6 _ _ ?_
  refine Fw.ret ?_
  refine Fw.X_ret ?_
  refine Fw.ret_ [.tmp 4] [_] Try.results74 (.tmp rfl .nil) ?_
  exact ⟨ret_int (by rw [Rg.tt_in hi, if_neg (by omega)]), rfl⟩
  rintro h1
  refine Fw.s (Fw.val_pickF rfl rfl) rfl ?_
  refine Fw.s (Fw.val_move rfl) rfl ?_
  refine Fw.gT (d := 16) rfl rfl ?_
  refine Fw.s (Fw.val_move rfl) rfl ?_
  refine Fw.gT (d := 16) rfl rfl ?_
  refine Fw.s (Fw.val_move rfl) rfl ?_
  refine Fw.gT (d := 16) rfl rfl ?_
  refine Fw.s (Fw.val_indexR Try.underlying100 sz2 rfl hA rfl rfl hi hadd) rfl ?_
  refine Fw.gT (d := 16) rfl rfl ?_
  refine Fw.ld sc2 rfl (HE) rfl ?_
  refine Fw.gT (d := 16) rfl rfl ?_
  refine Fw.s2 (Fw.val_bin rfl rfl Fw.b_gtr) rfl ?_ ?_
  rintro h2
  refine Fw.s (Fw.val_pickF rfl rfl) rfl ?_
  refine Fw.nil ?_
  refine hK3 _ _ (Fw.FC.sub (f' := [(22, _), (0, _), (1, _)]) (.cons rfl (.cons rfl (.cons rfl .nil))) ?_)
  refine Fw.condT rfl ?_
  refine Fw.seq fun _ hK9 => ?_
  refine Fw.region ?_
  refine Fw.call cf42 rfl rfl (never_any _) ?_
  rintro e_ _ ⟨rfl, rfl⟩
  refine ⟨_, rfl, ?_⟩
  refine Fw.s (Fw.val_assign rfl) rfl ?_
  refine Fw.nil ?_
  refine hK9 _ _ ?_
  refine Fw.ret ?_
  refine Fw.X_ret ?_
  refine Fw.ret_ [.tmp 4] [_] Try.results74 (.tmp rfl .nil) ?_
  exact ⟨ret_int (by rw [Rg.tt_in hi, if_neg (by omega)]), rfl⟩
  rintro h2
  refine Fw.s (Fw.val_pickF rfl rfl) rfl ?_
  refine Fw.nil ?_
  refine hK3 _ _ (Fw.FC.sub (f' := [(22, _), (0, _), (1, _)]) (.cons rfl (.cons rfl (.cons rfl .nil))) ?_)
  refine Fw.condF rfl ?_
  refine Fw.skip ?_
  refine hK2 _ _ ?_
  refine Fw.seq fun _ hK10 => ?_
  refine Fw.region ?_
  refine Fw.s (Fw.val_move rfl) rfl ?_
  refine Fw.s (Fw.val_move rfl) rfl ?_
  refine Fw.s (Fw.val_indexR Try.underlying100 sz2 rfl hA rfl rfl hi hadd) rfl ?_
  refine Fw.ld sc2 rfl (HE) rfl ?_
  refine Fw.s (Fw.val_assign rfl) rfl ?_
  refine Fw.nil ?_
  refine hK10 _ _ (Fw.FC.sub (f' := [(4, _)]) (.cons rfl .nil) ?_)
  refine Fw.ret ?_
  refine Fw.ret_ [.tmp 4] [_] Try.results74 (.tmp rfl .nil) ?_
  exact ⟨ret_int (by rw [Rg.tt_in hi, if_pos (by omega)]), rfl⟩
  refine Fw.calls Try.func74 rfl Try.ntmps74 rfl ?_
  refine Fw.seq fun _ hK1 => ?_
  refine Fw.region ?_
  refine Fw.s (Fw.val_assign rfl) rfl ?_
  refine Fw.nil ?_
  refine hK1 _ _ ?_
  refine Fw.seq fun _ hK2 => ?_
  refine Fw.seq fun _ hK3 => ?_
  refine Fw.region ?_
  refine Fw.s (Fw.val_move rfl) rfl ?_
  refine Fw.s (Fw.val_move rfl) rfl ?_
  refine Fw.s (Fw.val_len Try.underlying100 rfl) rfl ?_
  refine Fw.s (Fw.Val.T (Fw.val_bin rfl rfl Fw.b_geq) (by omega)) rfl ?_
  refine Fw.s (Fw.val_move rfl) rfl ?_
  refine Fw.gF (d := 9) rfl rfl rfl rfl ?_
  refine Fw.gF (d := 9) rfl rfl rfl rfl ?_
  refine Fw.gF (d := 9) rfl rfl rfl rfl ?_
  refine Fw.gF (d := 9) rfl rfl rfl rfl ?_
  refine Fw.gF (d := 9) rfl rfl rfl rfl ?_
  refine Fw.s (Fw.val_pickT rfl rfl) rfl ?_
  refine Fw.s (Fw.val_move rfl) rfl ?_
  refine Fw.gF (d := 16) rfl rfl rfl rfl ?_
  refine Fw.gF (d := 16) rfl rfl rfl rfl ?_
  refine Fw.gF (d := 16) rfl rfl rfl rfl ?_
  refine Fw.gF (d := 16) rfl rfl rfl rfl ?_
  refine Fw.gF (d := 16) rfl rfl rfl rfl ?_
  refine Fw.s (Fw.val_pickT rfl rfl) rfl ?_
  refine Fw.nil ?_
  refine hK3 _ _ (Fw.FC.sub (f' := [(22, _), (0, _), (1, _)]) (.cons rfl (.cons rfl (.cons rfl .nil))) ?_)
  refine Fw.condT rfl ?_
  refine Fw.seq fun _ hK4 => ?_
  refine Fw.region ?_
  refine Fw.call cf42 rfl rfl (never_any _) ?_
  rintro e_ _ ⟨rfl, rfl⟩
  refine ⟨_, rfl, ?_⟩
  refine Fw.s (Fw.val_assign rfl) rfl ?_
  refine Fw.nil ?_
  refine hK4 _ _ ?_
  refine Fw.ret ?_
  refine Fw.X_ret ?_
  refine Fw.ret_ [.tmp 4] [_] Try.results74 (.tmp rfl .nil) ?_
  exact ⟨ret_int (Rg.tt_out hi).symm, rfl⟩

namespace Rg
theorem wt_lt {N : Nat} {E : List Ed} {ts : List Int} {fwd : Bool} {j : Nat} (h : j < E.length) : (arcT N E ts fwd).wt j = tt ts j := tts_ix ts h
end Rg
namespace Rg
theorem rlx_yes {N : Nat} {E : List Ed} {ts d : List Int} {j : Nat} (hj : j < E.length) (hf : E[j].f < d.length) (ht : E[j].t < d.length) (h : tt ts j < 4611686018427387904 ∧ Sp.ix d E[j].f < 4611686018427387904 ∧ Sp.ix d E[j].f + tt ts j < Sp.ix d E[j].t) : Sp.rlx (arcT N E ts true) d j = d.set E[j].t (d[E[j].f] + tt ts j) := by
  have e1 : (arcT N E ts true).s j = E[j].f := arc_s hj
  have e2 : (arcT N E ts true).t j = E[j].t := arc_t hj
  unfold Sp.rlx
  rw [e1, e2, wt_lt hj, if_pos h, Sp.ix_get hf]
theorem rlx_no {N : Nat} {E : List Ed} {ts d : List Int} {j : Nat} (hj : j < E.length) (hf : E[j].f < d.length) (ht : E[j].t < d.length) (h : ¬ (tt ts j < 4611686018427387904 ∧ Sp.ix d E[j].f < 4611686018427387904 ∧ Sp.ix d E[j].f + tt ts j < Sp.ix d E[j].t)) : Sp.rlx (arcT N E ts true) d j = d := by
  have e1 : (arcT N E ts true).s j = E[j].f := arc_s hj
  have e2 : (arcT N E ts true).t j = E[j].t := arc_t hj
  unfold Sp.rlx
  rw [e1, e2, wt_lt hj, if_neg h]
theorem init1_at {N : Nat} {d : List Int} {e : Int} {u : Nat} (h : e = u) (hu : u < N) : Sp.init1 N d e = d.set u 0 := by
  subst h; unfold Sp.init1; rw [if_pos (by omega)]; rfl
theorem init1_no {N : Nat} {d : List Int} {e : Int} (h : ¬ (0 ≤ e ∧ e < N)) : Sp.init1 N d e = d := by unfold Sp.init1; rw [if_neg h]
end Rg
set_option maxRecDepth 100000 in
set_option maxHeartbeats 1000000 in
theorem refFrom_any (w : World) (N : Nat) (E : List Rg.Ed) (Ae : Option Addr) (ce : Nat) (hE : Rd w Ae (E.flatMap Rg.Ed.cells)) (hEO : Rg.EOk N E) (hEl : E.length ≤ 65536) (hN : N ≤ 12) (A : Option Addr) (ts : List Int) (c : Nat) (h : Rd w A (ts.map (.int .i64))) (An : Option Addr) (ends : List Int) (cn : Nat) (hnl : ends.length ≤ 65536) (hen : Rd w An (ends.map (.int .i64))) : Calls Try.prog 76 #[.agg #[.int .i64 (N : Int), .slice Ae E.length ce], .slice A ts.length c, .slice An ends.length cn] w fun e_ w' => ∃ A' c', e_ = .returned (.slice A' N c') ∧ w'.ownsRow w.heap.size 2 1 (.slice A' N c') N ((Sp.rounds (Rg.arcT N E ts true) (Sp.init N ends) N).map (.int .i64)) ∧ Below w.heap.size w w' := by
  have hA : Sp.Arcs.Ok (Rg.arcT N E ts true) 1048576 := Rg.arcT_ok ts true hEO
  refine Fw.calls Try.func76 rfl Try.ntmps76 rfl ?_
  have HB := Below.refl (w.heap.size) w
  refine Fw.seq fun _ hK1 => ?_
  refine Fw.region ?_
  refine Fw.box rfl rfl ?_
  intro w1 gn egn Hn hb
  have lgn : w.heap.size ≤ gn := by have := HB.size; omega
  replace HB := HB.trans (hb.mono HB.size)
  clear hb
  clear egn
  refine Fw.s (Fw.val_assign rfl) rfl ?_
  refine Fw.nil ?_
  refine hK1 _ _ ?_
  refine Fw.seq fun _ hK2 => ?_
  refine Fw.region ?_
  refine Fw.s (Fw.val_fieldAddr fl24_0 rfl rfl) rfl ?_
  refine Fw.ld sc3 rfl (Hn.cell 0) rfl ?_
  refine Fw.makeG N sl100 zi2 rfl rfl rfl rfl (by omega) (by unfold maxLen; omega) HB.size rfl ?_
  intro w2 gL egL HL hb
  have n_gn_gL : gn < gL := by have := Hn.lt; omega
  rw [Fw.made (cells := fun (x : Int) => [Value.int .i64 x]) (m := 1) (0 : Int) (Value.cells (.int .i64 0)) rfl rfl] at HL
  have lgL : w.heap.size ≤ gL := by have := HB.size; omega
  replace Hn := Hn.low hb
  replace HB := HB.trans (hb.mono HB.size)
  clear hb
  clear egL
  replace HL : World.ownsRow w2 w.heap.size 2 1 (.slice (some ⟨gL, 0, none⟩) N N) N ((List.replicate 0 Sp.INF ++ List.replicate (N - 0) 0).map (.int .i64)) := by simpa [List.flatMap_replicate] using HL
  refine Fw.s (Fw.val_assign rfl) rfl ?_
  refine Fw.nil ?_
  refine hK2 _ _ ?_
  refine Fw.seq fun _ hK3 => ?_
  refine Fw.seq fun _ hK4 => ?_
  refine Fw.region ?_
  refine Fw.s (Fw.val_assign rfl) rfl ?_
  refine Fw.nil ?_
  refine hK4 _ _ ?_
  refine Fw.block ?_
  refine Fw.loop (fun m_ f_ W_ => ∃ (k : Nat), m_ = N - k ∧ k ≤ N ∧ Blk W_ gn 24 #[.int .i64 (N : Int), .slice Ae E.length ce] ∧ World.ownsRow W_ w.heap.size 2 1 (.slice (some ⟨gL, 0, none⟩) N N) N ((List.replicate k Sp.INF ++ List.replicate (N - k) 0).map (.int .i64)) ∧ Below (w.heap.size) w W_ ∧ f_ = [(8, .int .i64 k), (7, .slice (some ⟨gL, 0, none⟩) N N), (3, .pointer (some ⟨gn, 0, none⟩)), (1, .slice A ts.length c), (2, .slice An ends.length cn)]) ⟨_, _, ⟨0, rfl, Nat.zero_le _, Hn, HL, HB, rfl⟩, (.cons rfl (.cons rfl (.cons rfl (.cons rfl (.cons rfl .nil)))))⟩ ?_
  clear Hn HL HB
  rintro m5_ _ w3 ⟨k, hm5_, hkn, Hn, HL, HB, rfl⟩
  refine Fw.seq fun _ hK6 => ?_
  refine Fw.seq fun _ hK7 => ?_
  refine Fw.region ?_
  refine Fw.s (Fw.val_move rfl) rfl ?_
  refine Fw.s (Fw.val_fieldAddr fl24_0 rfl rfl) rfl ?_
  refine Fw.ld sc3 rfl (Hn.cell 0) rfl ?_
  refine Fw.s2 (Fw.val_bin rfl rfl Fw.b_lss) rfl ?_ ?_
  rintro hk1
  refine Fw.nil ?_
  refine hK7 _ _ ?_
  refine Fw.condT rfl ?_
  refine Fw.skip ?_
  refine hK6 _ _ ?_
  refine Fw.seq fun _ hK9 => ?_
  refine Fw.block ?_
  have hkN : k < N := by omega
  refine Fw.region ?_
  refine Fw.s (Fw.val_move rfl) rfl ?_
  refine Fw.s (Fw.val_move rfl) rfl ?_
  refine Fw.call cf42 rfl rfl (never_any _) ?_
  rintro e_ _ ⟨rfl, rfl⟩
  refine ⟨_, rfl, ?_⟩
  have EW10 := True.intro
  refine Fw.s (Fw.val_indexR Try.underlying100 sz2 rfl rfl rfl rfl hkN (by rw [Fw.add_flat, Nat.zero_add, Nat.mul_one])) rfl ?_
  refine Fw.storeR sz2 rfl rfl HL (by simp; omega) rfl rfl ?_
  intro w4 N_ hc
  replace Hn := Hn.chg hc (by omega)
  replace HB := HB.trans (hc.below (B := w.heap.size) (fun k e => by omega) HB.size)
  clear hc
  clear HL EW10
  have HL := N_
  clear N_
  replace HL : World.ownsRow w4 w.heap.size 2 1 (.slice (some ⟨gL, 0, none⟩) N N) N ((List.replicate (k + 1) Sp.INF ++ List.replicate (N - (k + 1)) 0).map (.int .i64)) := by rw [← Rg.inf_step hkN]; simpa using HL
  refine Fw.nil ?_
  refine Fw.X_blockN ?_
  refine hK9 _ _ (Fw.FC.sub (f' := [(8, _), (7, _), (3, _), (1, _), (2, _)]) (.cons rfl (.cons rfl (.cons rfl (.cons rfl (.cons rfl .nil))))) ?_)
  refine Fw.region ?_
  refine Fw.s (Fw.val_move rfl) rfl ?_
  refine Fw.s (Fw.val_bin rfl rfl (Fw.b_add (Fw.i64_ok (by omega)))) rfl ?_
  refine Fw.s (Fw.val_assign rfl) rfl ?_
  refine Fw.nil ?_
  refine Fw.roundEnd _ _ (by omega) ⟨k + 1, rfl, by omega, Hn, HL, HB, rfl⟩ (.cons rfl (.cons rfl (.cons rfl (.cons rfl (.cons rfl .nil)))))
  rintro hk1
  refine Fw.nil ?_
  refine hK7 _ _ ?_
  refine Fw.condF rfl ?_
  refine Fw.exit ?_
  refine Fw.X_exit ?_
  refine Fw.X_exit ?_
  refine Fw.X_block ?_
  refine hK3 _ _ ?_
  refine Fw.seq fun _ hK12 => ?_
  refine Fw.seq fun _ hK13 => ?_
  refine Fw.region ?_
  refine Fw.s (Fw.val_assign rfl) rfl ?_
  refine Fw.nil ?_
  refine hK13 _ _ ?_
  refine Fw.block ?_
  have hk_ : k = N := by omega
  rw [hk_, Nat.sub_self, List.replicate_zero, List.append_nil] at HL
  refine Fw.loop (fun m_ f_ W_ => ∃ (k : Nat), m_ = ends.length - k ∧ k ≤ ends.length ∧ Blk W_ gn 24 #[.int .i64 (N : Int), .slice Ae E.length ce] ∧ World.ownsRow W_ w.heap.size 2 1 (.slice (some ⟨gL, 0, none⟩) N N) N ((Sp.init N (ends.take k)).map (.int .i64)) ∧ Below (w.heap.size) w W_ ∧ f_ = [(9, .int .i64 k), (7, .slice (some ⟨gL, 0, none⟩) N N), (3, .pointer (some ⟨gn, 0, none⟩)), (1, .slice A ts.length c), (2, .slice An ends.length cn)]) ⟨_, _, ⟨0, rfl, Nat.zero_le _, Hn, HL, HB, rfl⟩, (.cons rfl (.cons rfl (.cons rfl (.cons rfl (.cons rfl .nil)))))⟩ ?_
  clear Hn HL HB
  rintro m14_ _ w5 ⟨k, hm14_, hkn, Hn, HL, HB, rfl⟩
  refine Fw.seq fun _ hK15 => ?_
  refine Fw.seq fun _ hK16 => ?_
  refine Fw.region ?_
  refine Fw.s (Fw.val_move rfl) rfl ?_
  refine Fw.s (Fw.val_move rfl) rfl ?_
  refine Fw.s (Fw.val_len Try.underlying46 rfl) rfl ?_
  refine Fw.s2 (Fw.val_bin rfl rfl Fw.b_lss) rfl ?_ ?_
  rintro hk2
  refine Fw.nil ?_
  refine hK16 _ _ ?_
  refine Fw.condT rfl ?_
  refine Fw.skip ?_
  refine hK15 _ _ ?_
  refine Fw.seq fun _ hK18 => ?_
  refine Fw.block ?_
  refine Fw.seq fun _ hK19 => ?_
  have hkl : k < ends.length := by omega
  obtain ⟨ad, b_, o_, hAd, hadd, HE⟩ := Fw.rdAtM hen k hkl
  refine Fw.regionQ (by kernel_rfl) (by kernel_rfl) ?_
  refine Fw.q (Fw.val_move rfl) rfl ?_
  refine Fw.q (Fw.val_move rfl) rfl ?_
  refine Fw.q (Fw.val_indexR Try.underlying46 sz3 rfl hAd rfl rfl hkl hadd) rfl ?_
  refine Fw.ldQ sc3 rfl (((HB.cell (World.block_lt_of_cell? _ _ HE)).trans HE)) rfl ?_
  refine Fw.q2 (Fw.val_bin rfl rfl Fw.b_geq) rfl ?_ ?_
  rintro hq1
  refine Fw.q (Fw.val_move rfl) rfl ?_
  refine Fw.gTQ (d := 38) rfl rfl ?_
  refine Fw.q (Fw.val_move rfl) rfl ?_
  refine Fw.gTQ (d := 38) rfl rfl ?_
  refine Fw.q (Fw.val_move rfl) rfl ?_
  refine Fw.gTQ (d := 38) rfl rfl ?_
  refine Fw.q (Fw.val_indexR Try.underlying46 sz3 rfl hAd rfl rfl hkl hadd) rfl ?_
  refine Fw.gTQ (d := 38) rfl rfl ?_
  refine Fw.ldQ sc3 rfl (((HB.cell (World.block_lt_of_cell? _ _ HE)).trans HE)) rfl ?_
  refine Fw.gTQ (d := 38) rfl rfl ?_
  refine Fw.q (Fw.val_fieldAddr fl24_0 rfl rfl) rfl ?_
  refine Fw.gTQ (d := 38) rfl rfl ?_
  refine Fw.ldQ sc3 rfl (Hn.cell 0) rfl ?_
  refine Fw.gTQ (d := 38) rfl rfl ?_
  refine Fw.q2 (Fw.val_bin rfl rfl Fw.b_lss) rfl ?_ ?_
  rintro hq2
  refine Fw.q (Fw.val_pickT rfl rfl) rfl ?_
  refine Fw.nilQ ?_
  intro w6 hb
  replace Hn := Hn.low hb
  replace HL := own_below HL hb (Nat.le_refl _)
  replace HB := HB.trans (hb.mono HB.size)
  clear hb
  refine hK19 _ _ (Fw.FC.sub (f' := [(46, _), (45, _), (44, _), (43, _), (42, _), (41, _), (40, _), (39, _), (9, _), (7, _), (3, _), (1, _), (2, _)]) (.cons rfl (.cons rfl (.cons rfl (.cons rfl (.cons rfl (.cons rfl (.cons rfl (.cons rfl (.cons rfl (.cons rfl (.cons rfl (.cons rfl (.cons rfl .nil))))))))))))) ?_)
  refine Fw.condT rfl ?_
  obtain ⟨u, hu, huN⟩ : ∃ u : Nat, ends[k] = (u : Int) ∧ u < N := ⟨ends[k].toNat, by omega, by omega⟩
  have hul : u < (Sp.init N (ends.take k)).length := by rw [Sp.init_len]; exact huN
  refine Fw.region ?_
  refine Fw.s (Fw.val_move rfl) rfl ?_
  refine Fw.s (Fw.val_move rfl) rfl ?_
  refine Fw.s (Fw.val_move rfl) rfl ?_
  refine Fw.s (Fw.val_indexR Try.underlying46 sz3 rfl hAd rfl rfl hkl hadd) rfl ?_
  refine Fw.ld sc3 rfl (((HB.cell (World.block_lt_of_cell? _ _ HE)).trans HE)) rfl ?_
  have EW25 := True.intro
  refine Fw.s (Fw.val_indexR Try.underlying100 sz2 rfl rfl rfl hu huN (by rw [Fw.add_flat, Nat.zero_add, Nat.mul_one])) rfl ?_
  refine Fw.storeR sz2 rfl rfl HL (by simpa using hul) rfl rfl ?_
  intro w7 N_ hc
  replace Hn := Hn.chg hc (by omega)
  replace HB := HB.trans (hc.below (B := w.heap.size) (fun k e => by omega) HB.size)
  clear hc
  clear HL EW25
  have HL := N_
  clear N_
  replace HL : World.ownsRow w7 w.heap.size 2 1 (.slice (some ⟨gL, 0, none⟩) N N) N ((Sp.init N (ends.take (k + 1))).map (.int .i64)) := by rw [Rg.take_succ' hkl, Sp.init_snoc, Rg.init1_at hu huN]; simpa using HL
  refine Fw.nil ?_
  refine Fw.X_blockN ?_
  refine hK18 _ _ (Fw.FC.sub (f' := [(45, _), (44, _), (43, _), (42, _), (41, _), (40, _), (39, _), (9, _), (7, _), (3, _), (1, _), (2, _)]) (.cons rfl (.cons rfl (.cons rfl (.cons rfl (.cons rfl (.cons rfl (.cons rfl (.cons rfl (.cons rfl (.cons rfl (.cons rfl (.cons rfl .nil)))))))))))) ?_)
  refine Fw.region ?_
  refine Fw.s (Fw.val_move rfl) rfl ?_
  refine Fw.s (Fw.val_bin rfl rfl (Fw.b_add (Fw.i64_ok (by omega)))) rfl ?_
  refine Fw.s (Fw.val_assign rfl) rfl ?_
  refine Fw.nil ?_
  refine Fw.roundEnd _ _ (by omega) ⟨k + 1, rfl, by omega, Hn, HL, HB, rfl⟩ (.cons rfl (.cons rfl (.cons rfl (.cons rfl (.cons rfl .nil)))))
  rintro hq2
  refine Fw.q (Fw.val_pickT rfl rfl) rfl ?_
  refine Fw.nilQ ?_
  intro w8 hb
  replace Hn := Hn.low hb
  replace HL := own_below HL hb (Nat.le_refl _)
  replace HB := HB.trans (hb.mono HB.size)
  clear hb
  refine hK19 _ _ (Fw.FC.sub (f' := [(46, _), (45, _), (44, _), (43, _), (42, _), (41, _), (40, _), (39, _), (9, _), (7, _), (3, _), (1, _), (2, _)]) (.cons rfl (.cons rfl (.cons rfl (.cons rfl (.cons rfl (.cons rfl (.cons rfl (.cons rfl (.cons rfl (.cons rfl (.cons rfl (.cons rfl (.cons rfl .nil))))))))))))) ?_)
  refine Fw.condF rfl ?_
  refine Fw.skip ?_
  refine Fw.X_blockN ?_
  refine hK18 _ _ ?_
  refine Fw.region ?_
  refine Fw.s (Fw.val_move rfl) rfl ?_
  refine Fw.s (Fw.val_bin rfl rfl (Fw.b_add (Fw.i64_ok (by omega)))) rfl ?_
  refine Fw.s (Fw.val_assign rfl) rfl ?_
  refine Fw.nil ?_
  replace HL : World.ownsRow w8 w.heap.size 2 1 (.slice (some ⟨gL, 0, none⟩) N N) N ((Sp.init N (ends.take (k + 1))).map (.int .i64)) := by rw [Rg.take_succ' hkl, Sp.init_snoc, Rg.init1_no (by omega)]; exact HL
  refine Fw.roundEnd _ _ (by omega) ⟨k + 1, rfl, by omega, Hn, HL, HB, rfl⟩ (.cons rfl (.cons rfl (.cons rfl (.cons rfl (.cons rfl .nil)))))
  rintro hq1
  refine Fw.q (Fw.val_move rfl) rfl ?_
  refine Fw.gFQ (d := 38) rfl rfl rfl rfl ?_
  refine Fw.gFQ (d := 38) rfl rfl rfl rfl ?_
  refine Fw.gFQ (d := 38) rfl rfl rfl rfl ?_
  refine Fw.gFQ (d := 38) rfl rfl rfl rfl ?_
  refine Fw.gFQ (d := 38) rfl rfl rfl rfl ?_
  refine Fw.gFQ (d := 38) rfl rfl rfl rfl ?_
  refine Fw.gFQ (d := 38) rfl rfl rfl rfl ?_
  refine Fw.q (Fw.val_pickF rfl rfl) rfl ?_
  refine Fw.nilQ ?_
  intro w9 hb
  replace Hn := Hn.low hb
  replace HL := own_below HL hb (Nat.le_refl _)
  replace HB := HB.trans (hb.mono HB.size)
  clear hb
  refine hK19 _ _ (Fw.FC.sub (f' := [(46, _), (45, _), (44, _), (43, _), (42, _), (41, _), (40, _), (39, _), (9, _), (7, _), (3, _), (1, _), (2, _)]) (.cons rfl (.cons rfl (.cons rfl (.cons rfl (.cons rfl (.cons rfl (.cons rfl (.cons rfl (.cons rfl (.cons rfl (.cons rfl (.cons rfl (.cons rfl .nil))))))))))))) ?_)
  refine Fw.condF rfl ?_
  refine Fw.skip ?_
  refine Fw.X_blockN ?_
  refine hK18 _ _ ?_
  refine Fw.region ?_
  refine Fw.s (Fw.val_move rfl) rfl ?_
  refine Fw.s (Fw.val_bin rfl rfl (Fw.b_add (Fw.i64_ok (by omega)))) rfl ?_
  refine Fw.s (Fw.val_assign rfl) rfl ?_
  refine Fw.nil ?_
  replace HL : World.ownsRow w9 w.heap.size 2 1 (.slice (some ⟨gL, 0, none⟩) N N) N ((Sp.init N (ends.take (k + 1))).map (.int .i64)) := by rw [Rg.take_succ' hkl, Sp.init_snoc, Rg.init1_no (by omega)]; exact HL
  refine Fw.roundEnd _ _ (by omega) ⟨k + 1, rfl, by omega, Hn, HL, HB, rfl⟩ (.cons rfl (.cons rfl (.cons rfl (.cons rfl (.cons rfl .nil)))))
  rintro hk2
  refine Fw.nil ?_
  refine hK16 _ _ ?_
  refine Fw.condF rfl ?_
  refine Fw.exit ?_
  refine Fw.X_exit ?_
  refine Fw.X_exit ?_
  refine Fw.X_block ?_
  refine hK12 _ _ ?_
  refine Fw.seq fun _ hK27 => ?_
  refine Fw.seq fun _ hK28 => ?_
  refine Fw.region ?_
  refine Fw.s (Fw.val_assign rfl) rfl ?_
  refine Fw.nil ?_
  refine hK28 _ _ ?_
  refine Fw.block ?_
  rw [List.take_of_length_le (by omega)] at HL
  refine Fw.loop (fun m_ f_ W_ => ∃ (k : Nat), m_ = N - k ∧ k ≤ N ∧ Sp.Bd N (Sp.rounds (Rg.arcT N E ts true) (Sp.init N ends) k) ∧ Blk W_ gn 24 #[.int .i64 (N : Int), .slice Ae E.length ce] ∧ World.ownsRow W_ w.heap.size 2 1 (.slice (some ⟨gL, 0, none⟩) N N) N ((Sp.rounds (Rg.arcT N E ts true) (Sp.init N ends) k).map (.int .i64)) ∧ Below (w.heap.size) w W_ ∧ f_ = [(10, .int .i64 k), (7, .slice (some ⟨gL, 0, none⟩) N N), (3, .pointer (some ⟨gn, 0, none⟩)), (1, .slice A ts.length c)]) ⟨_, _, ⟨0, rfl, Nat.zero_le _, Sp.Bd.init N ends, Hn, HL, HB, rfl⟩, (.cons rfl (.cons rfl (.cons rfl (.cons rfl .nil))))⟩ ?_
  clear Hn HL HB
  rintro m29_ _ w10 ⟨k, hm29_, hkn, hbd, Hn, HL, HB, rfl⟩
  refine Fw.seq fun _ hK30 => ?_
  refine Fw.seq fun _ hK31 => ?_
  refine Fw.region ?_
  refine Fw.s (Fw.val_move rfl) rfl ?_
  refine Fw.s (Fw.val_fieldAddr fl24_0 rfl rfl) rfl ?_
  refine Fw.ld sc3 rfl (Hn.cell 0) rfl ?_
  refine Fw.s2 (Fw.val_bin rfl rfl Fw.b_lss) rfl ?_ ?_
  rintro hk3
  refine Fw.nil ?_
  refine hK31 _ _ ?_
  refine Fw.condT rfl ?_
  refine Fw.skip ?_
  refine hK30 _ _ ?_
  refine Fw.seq fun _ hK33 => ?_
  refine Fw.block ?_
  refine Fw.seq fun _ hK34 => ?_
  refine Fw.region ?_
  refine Fw.s (Fw.val_assign rfl) rfl ?_
  refine Fw.nil ?_
  refine hK34 _ _ ?_
  refine Fw.block ?_
  refine Fw.loop (fun m_ f_ W_ => ∃ (j : Nat), m_ = E.length - j ∧ j ≤ E.length ∧ Sp.Bd N (Sp.upTo (Rg.arcT N E ts true) (Sp.rounds (Rg.arcT N E ts true) (Sp.init N ends) k) j) ∧ Blk W_ gn 24 #[.int .i64 (N : Int), .slice Ae E.length ce] ∧ World.ownsRow W_ w.heap.size 2 1 (.slice (some ⟨gL, 0, none⟩) N N) N ((Sp.upTo (Rg.arcT N E ts true) (Sp.rounds (Rg.arcT N E ts true) (Sp.init N ends) k) j).map (.int .i64)) ∧ Below (w.heap.size) w W_ ∧ f_ = [(11, .int .i64 j), (10, .int .i64 k), (7, .slice (some ⟨gL, 0, none⟩) N N), (3, .pointer (some ⟨gn, 0, none⟩)), (1, .slice A ts.length c)]) ⟨_, _, ⟨0, rfl, Nat.zero_le _, hbd, Hn, HL, HB, rfl⟩, (.cons rfl (.cons rfl (.cons rfl (.cons rfl (.cons rfl .nil)))))⟩ ?_
  clear Hn HL HB
  rintro m35_ _ w11 ⟨j, hm35_, hjn, hbd2, Hn, HL, HB, rfl⟩
  refine Fw.seq fun _ hK36 => ?_
  refine Fw.seq fun _ hK37 => ?_
  refine Fw.region ?_
  refine Fw.s (Fw.val_move rfl) rfl ?_
  refine Fw.s (Fw.val_fieldAddr fl24_1 rfl rfl) rfl ?_
  refine Fw.ld sc22 rfl (Hn.cell 1) rfl ?_
  refine Fw.s (Fw.val_len Try.underlying22 rfl) rfl ?_
  refine Fw.s2 (Fw.val_bin rfl rfl Fw.b_lss) rfl ?_ ?_
  rintro hj1
  refine Fw.nil ?_
  refine hK37 _ _ ?_
  refine Fw.condT rfl ?_
  refine Fw.skip ?_
  refine hK36 _ _ ?_
  refine Fw.seq fun _ hK39 => ?_
  refine Fw.block ?_
  refine Fw.seq fun _ hK40 => ?_
  have hjl : j < E.length := by omega
  obtain ⟨ae, be_, oe_, hAe, hadde, HEe⟩ := Fw.rdAt Rg.Ed.len (by decide) hE j hjl
  have hje := hEO _ (List.getElem_mem hjl)
  have hUl : (Sp.upTo (Rg.arcT N E ts true) (Sp.rounds (Rg.arcT N E ts true) (Sp.init N ends) k) j).length = N := hbd2.1
  have hfl : E[j].f < (Sp.upTo (Rg.arcT N E ts true) (Sp.rounds (Rg.arcT N E ts true) (Sp.init N ends) k) j).length := by omega
  have htl : E[j].t < (Sp.upTo (Rg.arcT N E ts true) (Sp.rounds (Rg.arcT N E ts true) (Sp.init N ends) k) j).length := by omega
  have hbf := hbd2.2 _ hje.1
  rw [Sp.ix_get hfl] at hbf
  have htb := Rg.tt_bd ts j
  refine Fw.region ?_
  refine Fw.s (Fw.val_fieldAddr fl24_1 rfl rfl) rfl ?_
  refine Fw.ld sc22 rfl (Hn.cell 1) rfl ?_
  refine Fw.s (Fw.val_move rfl) rfl ?_
  refine Fw.s (Fw.val_indexR Try.underlying22 sz75 rfl hAe rfl rfl hjl hadde) rfl ?_
  refine Fw.ldA ag75 rfl ((HEe.low HB)) rfl rfl ?_
  refine Fw.alloc ze75 rfl ?_
  intro w12 ge ege He hb
  have n_gL_ge : gL < ge := by have := (HL.lt gL rfl).2; omega
  have n_gn_ge : gn < ge := by have := Hn.lt; omega
  have lge : w.heap.size ≤ ge := by have := HB.size; omega
  replace Hn := Hn.low hb
  replace HL := own_below HL hb (Nat.le_refl _)
  replace HB := HB.trans (hb.mono HB.size)
  clear hb
  clear ege
  refine Fw.storeW sz75 rfl rfl He rfl rfl (by exact Fw.oneCells rfl) ?_
  intro w13 N_ hc
  replace Hn := Hn.chg hc (by omega)
  replace HL := own_to HL hc (fun g_ h_ e_ => by injection h_ with h_; have h_ : gL = g_ := h_; have e_ : g_ = ge := e_; omega)
  replace HB := HB.trans (hc.below (B := w.heap.size) (fun k e => by omega) HB.size)
  clear hc
  clear He
  have He := N_
  clear N_
  replace He : Blk w13 ge 75 #[.int .i64 (E[j].f : Int), .int .i64 (E[j].t : Int), .int .i64 E[j].m] := He
  refine Fw.nil ?_
  refine hK40 _ _ (Fw.FC.sub (f' := [(12, _), (11, _), (10, _), (7, _), (3, _), (1, _)]) (.cons rfl (.cons rfl (.cons rfl (.cons rfl (.cons rfl (.cons rfl .nil)))))) ?_)
  refine Fw.seq fun _ hK42 => ?_
  refine Fw.region ?_
  refine Fw.s (Fw.val_move rfl) rfl ?_
  refine Fw.s (Fw.val_move rfl) rfl ?_
  refine Fw.call cf74 rfl rfl (time_any _ A ts c (h.low HB) j) ?_
  rintro e_ _ ⟨rfl, rfl⟩
  refine ⟨_, rfl, ?_⟩
  refine Fw.s (Fw.val_assign rfl) rfl ?_
  refine Fw.nil ?_
  refine hK42 _ _ ?_
  refine Fw.seq fun _ hK43 => ?_
  refine Fw.regionQ (by kernel_rfl) (by kernel_rfl) ?_
  refine Fw.q (Fw.val_move rfl) rfl ?_
  refine Fw.callQ cf42 rfl rfl (fun w_ hb_ => never_any _) (fun _ _ _ h => ⟨h.1, h.2 ▸ Below.refl _ _⟩) ?_
  refine Fw.q2 (Fw.val_bin rfl rfl Fw.b_lss) rfl ?_ ?_
  rintro hq1
  refine Fw.q (Fw.val_move rfl) rfl ?_
  refine Fw.gTQ (d := 77) rfl rfl ?_
  refine Fw.q (Fw.val_move rfl) rfl ?_
  refine Fw.gTQ (d := 77) rfl rfl ?_
  refine Fw.q (Fw.val_fieldAddr fl75_0 rfl rfl) rfl ?_
  refine Fw.gTQ (d := 77) rfl rfl ?_
  refine Fw.ldQ sc3 rfl (He.cell 0) rfl ?_
  refine Fw.gTQ (d := 77) rfl rfl ?_
  have HC1 := Rg.own_cell HL _ hfl
  refine Fw.q (Fw.val_indexR Try.underlying100 sz2 rfl rfl rfl rfl hje.1 (by rw [Fw.add_flat, Nat.zero_add, Nat.mul_one])) rfl ?_
  refine Fw.gTQ (d := 77) rfl rfl ?_
  refine Fw.ldQ sc2 rfl (HC1) rfl ?_
  refine Fw.gTQ (d := 77) rfl rfl ?_
  refine Fw.callQ cf42 rfl rfl (fun w_ hb_ => never_any _) (fun _ _ _ h => ⟨h.1, h.2 ▸ Below.refl _ _⟩) ?_
  refine Fw.gTQ (d := 77) rfl rfl ?_
  refine Fw.q2 (Fw.val_bin rfl rfl Fw.b_lss) rfl ?_ ?_
  rintro hq2
  refine Fw.q (Fw.val_pickT rfl rfl) rfl ?_
  refine Fw.q (Fw.val_move rfl) rfl ?_
  refine Fw.gTQ (d := 86) rfl rfl ?_
  refine Fw.q (Fw.val_move rfl) rfl ?_
  refine Fw.gTQ (d := 86) rfl rfl ?_
  refine Fw.q (Fw.val_fieldAddr fl75_0 rfl rfl) rfl ?_
  refine Fw.gTQ (d := 86) rfl rfl ?_
  refine Fw.ldQ sc3 rfl (He.cell 0) rfl ?_
  refine Fw.gTQ (d := 86) rfl rfl ?_
  have HC1 := Rg.own_cell HL _ hfl
  refine Fw.q (Fw.val_indexR Try.underlying100 sz2 rfl rfl rfl rfl hje.1 (by rw [Fw.add_flat, Nat.zero_add, Nat.mul_one])) rfl ?_
  refine Fw.gTQ (d := 86) rfl rfl ?_
  refine Fw.ldQ sc2 rfl (HC1) rfl ?_
  refine Fw.gTQ (d := 86) rfl rfl ?_
  refine Fw.q (Fw.val_move rfl) rfl ?_
  refine Fw.gTQ (d := 86) rfl rfl ?_
  refine Fw.q (Fw.val_bin rfl rfl (Fw.b_add (Fw.i64_ok (by omega)))) rfl ?_
  refine Fw.gTQ (d := 86) rfl rfl ?_
  refine Fw.q (Fw.val_move rfl) rfl ?_
  refine Fw.gTQ (d := 86) rfl rfl ?_
  refine Fw.q (Fw.val_fieldAddr fl75_1 rfl rfl) rfl ?_
  refine Fw.gTQ (d := 86) rfl rfl ?_
  refine Fw.ldQ sc3 rfl (He.cell 1) rfl ?_
  refine Fw.gTQ (d := 86) rfl rfl ?_
  have HC2 := Rg.own_cell HL _ htl
  refine Fw.q (Fw.val_indexR Try.underlying100 sz2 rfl rfl rfl rfl hje.2 (by rw [Fw.add_flat, Nat.zero_add, Nat.mul_one])) rfl ?_
  refine Fw.gTQ (d := 86) rfl rfl ?_
  refine Fw.ldQ sc2 rfl (HC2) rfl ?_
  refine Fw.gTQ (d := 86) rfl rfl ?_
  refine Fw.q2 (Fw.val_bin rfl rfl Fw.b_lss) rfl ?_ ?_
  rintro hq3
  refine Fw.q (Fw.val_pickT rfl rfl) rfl ?_
  refine Fw.nilQ ?_
  intro w14 hb
  replace Hn := Hn.low hb
  replace HL := own_below HL hb (Nat.le_refl _)
  replace He := He.low hb
  replace HC1 := (hb.cell (World.block_lt_of_cell? _ _ HC1)).trans HC1
  replace HC2 := (hb.cell (World.block_lt_of_cell? _ _ HC2)).trans HC2
  replace HB := HB.trans (hb.mono HB.size)
  clear hb
  refine hK43 _ _ (Fw.FC.sub (f' := [(100, _), (99, _), (98, _), (97, _), (96, _), (95, _), (94, _), (93, _), (92, _), (91, _), (90, _), (89, _), (88, _), (87, _), (84, _), (83, _), (82, _), (81, _), (80, _), (79, _), (78, _), (13, _), (12, _), (11, _), (10, _), (7, _), (3, _), (1, _)]) (.cons rfl (.cons rfl (.cons rfl (.cons rfl (.cons rfl (.cons rfl (.cons rfl (.cons rfl (.cons rfl (.cons rfl (.cons rfl (.cons rfl (.cons rfl (.cons rfl (.cons rfl (.cons rfl (.cons rfl (.cons rfl (.cons rfl (.cons rfl (.cons rfl (.cons rfl (.cons rfl (.cons rfl (.cons rfl (.cons rfl (.cons rfl (.cons rfl .nil)))))))))))))))))))))))))))) ?_)
  refine Fw.condT rfl ?_
  refine Fw.regionHS (Chg (· = gL) w14) (by kernel_rfl) (Chg.of_below (Fw.drew_low w14) _) ?_
  have R_Hn := Hn
  have R_He := He
  have R_HC1 := HC1
  have R_HC2 := HC2
  have R_HB := HB
  intro w15 hb HS
  replace Hn := Hn.low hb
  replace HL := own_below HL hb (Nat.le_refl _)
  replace He := He.low hb
  replace HC1 := (hb.cell (World.block_lt_of_cell? _ _ HC1)).trans HC1
  replace HC2 := (hb.cell (World.block_lt_of_cell? _ _ HC2)).trans HC2
  replace HB := HB.trans (hb.mono HB.size)
  clear hb
  refine Fw.hTk 0 rfl rfl (Fw.yV (Fw.val_move rfl)) rfl ?_
  refine Fw.hTk 1 rfl rfl (Fw.yV (Fw.val_fieldAddr fl75_1 rfl rfl)) rfl ?_
  refine Fw.hTk 2 rfl rfl (Fw.yV (Fw.hLdC sc3 rfl (R_He.cell 1) (by show ¬ ge = gL; omega))) rfl ?_
  refine Fw.hTk 3 rfl rfl (Fw.yV (Fw.val_move rfl)) rfl ?_
  refine Fw.hTk 4 rfl rfl (Fw.yV (Fw.val_fieldAddr fl75_0 rfl rfl)) rfl ?_
  refine Fw.hTk 5 rfl rfl (Fw.yV (Fw.hLdC sc3 rfl (R_He.cell 0) (by show ¬ ge = gL; omega))) rfl ?_
  have HC1 := Rg.own_cell HL _ hfl
  refine Fw.hTk 6 rfl rfl (Fw.yV (Fw.val_indexR Try.underlying100 sz2 rfl rfl rfl rfl hje.1 (by rw [Fw.add_flat, Nat.zero_add, Nat.mul_one]))) rfl ?_
  refine Fw.hTk 8 rfl rfl (Fw.yV (Fw.val_move rfl)) rfl ?_
  refine Fw.hAll1 7 (by kernel_rfl) ?_
  refine Fw.hOp 7 rfl ?_
  refine Fw.ld sc2 rfl (HC1) rfl ?_
  refine Fw.hNext HS ?_
  refine Fw.hTk 9 rfl rfl (Fw.yV (Fw.val_bin rfl rfl (Fw.b_add (Fw.i64_ok (by omega))))) rfl ?_
  have EW51 := True.intro
  refine Fw.hTk 10 rfl rfl (Fw.yV (Fw.val_indexR Try.underlying100 sz2 rfl rfl rfl rfl hje.2 (by rw [Fw.add_flat, Nat.zero_add, Nat.mul_one]))) rfl ?_
  refine Fw.hAll1 11 (by kernel_rfl) ?_
  refine Fw.hOp 11 rfl ?_
  refine Fw.storeR sz2 rfl rfl HL (by simpa using htl) rfl rfl ?_
  intro w16 N_ hc
  replace Hn := Hn.chg hc (by omega)
  replace He := He.chg hc (by omega)
  replace HS := HS.trans hc (fun _ _ h => h)
  replace HB := HB.trans (hc.below (B := w.heap.size) (fun k e => by omega) HB.size)
  clear hc
  clear HL EW51
  have HL := N_
  clear N_
  replace HL : World.ownsRow w16 w.heap.size 2 1 (.slice (some ⟨gL, 0, none⟩) N N) N (((Sp.upTo (Rg.arcT N E ts true) (Sp.rounds (Rg.arcT N E ts true) (Sp.init N ends) k) j).set E[j].t ((Sp.upTo (Rg.arcT N E ts true) (Sp.rounds (Rg.arcT N E ts true) (Sp.init N ends) k) j)[E[j].f] + Rg.tt ts j)).map (.int .i64)) := by simpa using HL
  refine Fw.hNext HS ?_
  refine Fw.hDone (by kernel_rfl) ?_
  refine Fw.X_blockN ?_
  refine hK39 _ _ (Fw.FC.sub (f' := [(99, _), (98, _), (97, _), (96, _), (95, _), (94, _), (93, _), (92, _), (91, _), (90, _), (89, _), (88, _), (87, _), (84, _), (83, _), (82, _), (81, _), (80, _), (79, _), (78, _), (11, _), (10, _), (7, _), (3, _), (1, _)]) (.cons rfl (.cons rfl (.cons rfl (.cons rfl (.cons rfl (.cons rfl (.cons rfl (.cons rfl (.cons rfl (.cons rfl (.cons rfl (.cons rfl (.cons rfl (.cons rfl (.cons rfl (.cons rfl (.cons rfl (.cons rfl (.cons rfl (.cons rfl (.cons rfl (.cons rfl (.cons rfl (.cons rfl (.cons rfl .nil))))))))))))))))))))))))) ?_)
  refine Fw.region ?_
  refine Fw.s (Fw.val_move rfl) rfl ?_
  refine Fw.s (Fw.val_bin rfl rfl (Fw.b_add (Fw.i64_ok (by omega)))) rfl ?_
  refine Fw.s (Fw.val_assign rfl) rfl ?_
  refine Fw.nil ?_
  replace HL : World.ownsRow w16 w.heap.size 2 1 (.slice (some ⟨gL, 0, none⟩) N N) N ((Sp.upTo (Rg.arcT N E ts true) (Sp.rounds (Rg.arcT N E ts true) (Sp.init N ends) k) (j + 1)).map (.int .i64)) := by rw [Sp.upTo_succ, show Sp.rlx (Rg.arcT N E ts true) (Sp.upTo (Rg.arcT N E ts true) (Sp.rounds (Rg.arcT N E ts true) (Sp.init N ends) k) j) j = (Sp.upTo (Rg.arcT N E ts true) (Sp.rounds (Rg.arcT N E ts true) (Sp.init N ends) k) j).set E[j].t ((Sp.upTo (Rg.arcT N E ts true) (Sp.rounds (Rg.arcT N E ts true) (Sp.init N ends) k) j)[E[j].f] + Rg.tt ts j) from Rg.rlx_yes hjl hfl htl (by rw [Sp.ix_get hfl, Sp.ix_get htl]; exact ⟨hq1, hq2, hq3⟩)]; exact HL
  refine Fw.roundEnd _ _ (by omega) ⟨j + 1, rfl, by omega, by rw [Sp.upTo_succ]; exact hbd2.rlx hA hjl, Hn, HL, HB, rfl⟩ (.cons rfl (.cons rfl (.cons rfl (.cons rfl (.cons rfl .nil)))))
  rintro hq3
  refine Fw.q (Fw.val_pickT rfl rfl) rfl ?_
  refine Fw.nilQ ?_
  intro w17 hb
  replace Hn := Hn.low hb
  replace HL := own_below HL hb (Nat.le_refl _)
  replace He := He.low hb
  replace HC1 := (hb.cell (World.block_lt_of_cell? _ _ HC1)).trans HC1
  replace HC2 := (hb.cell (World.block_lt_of_cell? _ _ HC2)).trans HC2
  replace HB := HB.trans (hb.mono HB.size)
  clear hb
  refine hK43 _ _ (Fw.FC.sub (f' := [(100, _), (99, _), (98, _), (97, _), (96, _), (95, _), (94, _), (93, _), (92, _), (91, _), (90, _), (89, _), (88, _), (87, _), (84, _), (83, _), (82, _), (81, _), (80, _), (79, _), (78, _), (13, _), (12, _), (11, _), (10, _), (7, _), (3, _), (1, _)]) (.cons rfl (.cons rfl (.cons rfl (.cons rfl (.cons rfl (.cons rfl (.cons rfl (.cons rfl (.cons rfl (.cons rfl (.cons rfl (.cons rfl (.cons rfl (.cons rfl (.cons rfl (.cons rfl (.cons rfl (.cons rfl (.cons rfl (.cons rfl (.cons rfl (.cons rfl (.cons rfl (.cons rfl (.cons rfl (.cons rfl (.cons rfl (.cons rfl .nil)))))))))))))))))))))))))))) ?_)
  refine Fw.condF rfl ?_
  refine Fw.skip ?_
  refine Fw.X_blockN ?_
  refine hK39 _ _ ?_
  refine Fw.region ?_
  refine Fw.s (Fw.val_move rfl) rfl ?_
  refine Fw.s (Fw.val_bin rfl rfl (Fw.b_add (Fw.i64_ok (by omega)))) rfl ?_
  refine Fw.s (Fw.val_assign rfl) rfl ?_
  refine Fw.nil ?_
  replace HL : World.ownsRow w17 w.heap.size 2 1 (.slice (some ⟨gL, 0, none⟩) N N) N ((Sp.upTo (Rg.arcT N E ts true) (Sp.rounds (Rg.arcT N E ts true) (Sp.init N ends) k) (j + 1)).map (.int .i64)) := by rw [Sp.upTo_succ, show Sp.rlx (Rg.arcT N E ts true) (Sp.upTo (Rg.arcT N E ts true) (Sp.rounds (Rg.arcT N E ts true) (Sp.init N ends) k) j) j = Sp.upTo (Rg.arcT N E ts true) (Sp.rounds (Rg.arcT N E ts true) (Sp.init N ends) k) j from Rg.rlx_no hjl hfl htl (by rw [Sp.ix_get hfl, Sp.ix_get htl]; omega)]; exact HL
  refine Fw.roundEnd _ _ (by omega) ⟨j + 1, rfl, by omega, by rw [Sp.upTo_succ]; exact hbd2.rlx hA hjl, Hn, HL, HB, rfl⟩ (.cons rfl (.cons rfl (.cons rfl (.cons rfl (.cons rfl .nil)))))
  rintro hq2
  refine Fw.q (Fw.val_pickT rfl rfl) rfl ?_
  refine Fw.q (Fw.val_move rfl) rfl ?_
  refine Fw.gFQ (d := 86) rfl rfl rfl rfl ?_
  refine Fw.gFQ (d := 86) rfl rfl rfl rfl ?_
  refine Fw.gFQ (d := 86) rfl rfl rfl rfl ?_
  refine Fw.gFQ (d := 86) rfl rfl rfl rfl ?_
  refine Fw.gFQ (d := 86) rfl rfl rfl rfl ?_
  refine Fw.gFQ (d := 86) rfl rfl rfl rfl ?_
  refine Fw.gFQ (d := 86) rfl rfl rfl rfl ?_
  refine Fw.gFQ (d := 86) rfl rfl rfl rfl ?_
  refine Fw.gFQ (d := 86) rfl rfl rfl rfl ?_
  refine Fw.gFQ (d := 86) rfl rfl rfl rfl ?_
  refine Fw.gFQ (d := 86) rfl rfl rfl rfl ?_
  refine Fw.gFQ (d := 86) rfl rfl rfl rfl ?_
  refine Fw.gFQ (d := 86) rfl rfl rfl rfl ?_
  refine Fw.q (Fw.val_pickF rfl rfl) rfl ?_
  refine Fw.nilQ ?_
  intro w18 hb
  replace Hn := Hn.low hb
  replace HL := own_below HL hb (Nat.le_refl _)
  replace He := He.low hb
  replace HC1 := (hb.cell (World.block_lt_of_cell? _ _ HC1)).trans HC1
  replace HB := HB.trans (hb.mono HB.size)
  clear hb
  refine hK43 _ _ (Fw.FC.sub (f' := [(100, _), (99, _), (98, _), (97, _), (96, _), (95, _), (94, _), (93, _), (92, _), (91, _), (90, _), (89, _), (88, _), (87, _), (84, _), (83, _), (82, _), (81, _), (80, _), (79, _), (78, _), (13, _), (12, _), (11, _), (10, _), (7, _), (3, _), (1, _)]) (.cons rfl (.cons rfl (.cons rfl (.cons rfl (.cons rfl (.cons rfl (.cons rfl (.cons rfl (.cons rfl (.cons rfl (.cons rfl (.cons rfl (.cons rfl (.cons rfl (.cons rfl (.cons rfl (.cons rfl (.cons rfl (.cons rfl (.cons rfl (.cons rfl (.cons rfl (.cons rfl (.cons rfl (.cons rfl (.cons rfl (.cons rfl (.cons rfl .nil)))))))))))))))))))))))))))) ?_)
  refine Fw.condF rfl ?_
  refine Fw.skip ?_
  refine Fw.X_blockN ?_
  refine hK39 _ _ ?_
  refine Fw.region ?_
  refine Fw.s (Fw.val_move rfl) rfl ?_
  refine Fw.s (Fw.val_bin rfl rfl (Fw.b_add (Fw.i64_ok (by omega)))) rfl ?_
  refine Fw.s (Fw.val_assign rfl) rfl ?_
  refine Fw.nil ?_
  replace HL : World.ownsRow w18 w.heap.size 2 1 (.slice (some ⟨gL, 0, none⟩) N N) N ((Sp.upTo (Rg.arcT N E ts true) (Sp.rounds (Rg.arcT N E ts true) (Sp.init N ends) k) (j + 1)).map (.int .i64)) := by rw [Sp.upTo_succ, show Sp.rlx (Rg.arcT N E ts true) (Sp.upTo (Rg.arcT N E ts true) (Sp.rounds (Rg.arcT N E ts true) (Sp.init N ends) k) j) j = Sp.upTo (Rg.arcT N E ts true) (Sp.rounds (Rg.arcT N E ts true) (Sp.init N ends) k) j from Rg.rlx_no hjl hfl htl (by rw [Sp.ix_get hfl, Sp.ix_get htl]; omega)]; exact HL
  refine Fw.roundEnd _ _ (by omega) ⟨j + 1, rfl, by omega, by rw [Sp.upTo_succ]; exact hbd2.rlx hA hjl, Hn, HL, HB, rfl⟩ (.cons rfl (.cons rfl (.cons rfl (.cons rfl (.cons rfl .nil)))))
  rintro hq1
  refine Fw.q (Fw.val_move rfl) rfl ?_
  refine Fw.gFQ (d := 77) rfl rfl rfl rfl ?_
  refine Fw.gFQ (d := 77) rfl rfl rfl rfl ?_
  refine Fw.gFQ (d := 77) rfl rfl rfl rfl ?_
  refine Fw.gFQ (d := 77) rfl rfl rfl rfl ?_
  refine Fw.gFQ (d := 77) rfl rfl rfl rfl ?_
  refine Fw.gFQ (d := 77) rfl rfl rfl rfl ?_
  refine Fw.gFQ (d := 77) rfl rfl rfl rfl ?_
  refine Fw.q (Fw.val_pickF rfl rfl) rfl ?_
  refine Fw.q (Fw.val_move rfl) rfl ?_
  refine Fw.gFQ (d := 86) rfl rfl rfl rfl ?_
  refine Fw.gFQ (d := 86) rfl rfl rfl rfl ?_
  refine Fw.gFQ (d := 86) rfl rfl rfl rfl ?_
  refine Fw.gFQ (d := 86) rfl rfl rfl rfl ?_
  refine Fw.gFQ (d := 86) rfl rfl rfl rfl ?_
  refine Fw.gFQ (d := 86) rfl rfl rfl rfl ?_
  refine Fw.gFQ (d := 86) rfl rfl rfl rfl ?_
  refine Fw.gFQ (d := 86) rfl rfl rfl rfl ?_
  refine Fw.gFQ (d := 86) rfl rfl rfl rfl ?_
  refine Fw.gFQ (d := 86) rfl rfl rfl rfl ?_
  refine Fw.gFQ (d := 86) rfl rfl rfl rfl ?_
  refine Fw.gFQ (d := 86) rfl rfl rfl rfl ?_
  refine Fw.gFQ (d := 86) rfl rfl rfl rfl ?_
  refine Fw.q (Fw.val_pickF rfl rfl) rfl ?_
  refine Fw.nilQ ?_
  intro w19 hb
  replace Hn := Hn.low hb
  replace HL := own_below HL hb (Nat.le_refl _)
  replace He := He.low hb
  replace HB := HB.trans (hb.mono HB.size)
  clear hb
  refine hK43 _ _ (Fw.FC.sub (f' := [(100, _), (99, _), (98, _), (97, _), (96, _), (95, _), (94, _), (93, _), (92, _), (91, _), (90, _), (89, _), (88, _), (87, _), (84, _), (83, _), (82, _), (81, _), (80, _), (79, _), (78, _), (13, _), (12, _), (11, _), (10, _), (7, _), (3, _), (1, _)]) (.cons rfl (.cons rfl (.cons rfl (.cons rfl (.cons rfl (.cons rfl (.cons rfl (.cons rfl (.cons rfl (.cons rfl (.cons rfl (.cons rfl (.cons rfl (.cons rfl (.cons rfl (.cons rfl (.cons rfl (.cons rfl (.cons rfl (.cons rfl (.cons rfl (.cons rfl (.cons rfl (.cons rfl (.cons rfl (.cons rfl (.cons rfl (.cons rfl .nil)))))))))))))))))))))))))))) ?_)
  refine Fw.condF rfl ?_
  refine Fw.skip ?_
  refine Fw.X_blockN ?_
  refine hK39 _ _ ?_
  refine Fw.region ?_
  refine Fw.s (Fw.val_move rfl) rfl ?_
  refine Fw.s (Fw.val_bin rfl rfl (Fw.b_add (Fw.i64_ok (by omega)))) rfl ?_
  refine Fw.s (Fw.val_assign rfl) rfl ?_
  refine Fw.nil ?_
  replace HL : World.ownsRow w19 w.heap.size 2 1 (.slice (some ⟨gL, 0, none⟩) N N) N ((Sp.upTo (Rg.arcT N E ts true) (Sp.rounds (Rg.arcT N E ts true) (Sp.init N ends) k) (j + 1)).map (.int .i64)) := by rw [Sp.upTo_succ, show Sp.rlx (Rg.arcT N E ts true) (Sp.upTo (Rg.arcT N E ts true) (Sp.rounds (Rg.arcT N E ts true) (Sp.init N ends) k) j) j = Sp.upTo (Rg.arcT N E ts true) (Sp.rounds (Rg.arcT N E ts true) (Sp.init N ends) k) j from Rg.rlx_no hjl hfl htl (by rw [Sp.ix_get hfl, Sp.ix_get htl]; omega)]; exact HL
  refine Fw.roundEnd _ _ (by omega) ⟨j + 1, rfl, by omega, by rw [Sp.upTo_succ]; exact hbd2.rlx hA hjl, Hn, HL, HB, rfl⟩ (.cons rfl (.cons rfl (.cons rfl (.cons rfl (.cons rfl .nil)))))
  rintro hj1
  refine Fw.nil ?_
  refine hK37 _ _ ?_
  refine Fw.condF rfl ?_
  refine Fw.exit ?_
  refine Fw.X_exit ?_
  refine Fw.X_exit ?_
  refine Fw.X_block ?_
  refine Fw.X_blockN ?_
  refine hK33 _ _ ?_
  refine Fw.region ?_
  refine Fw.s (Fw.val_move rfl) rfl ?_
  refine Fw.s (Fw.val_bin rfl rfl (Fw.b_add (Fw.i64_ok (by omega)))) rfl ?_
  refine Fw.s (Fw.val_assign rfl) rfl ?_
  refine Fw.nil ?_
  obtain rfl : j = E.length := by omega
  refine Fw.roundEnd _ _ (by omega) ⟨k + 1, rfl, by omega, hbd2, Hn, HL, HB, rfl⟩ (.cons rfl (.cons rfl (.cons rfl (.cons rfl .nil))))
  rintro hk3
  refine Fw.nil ?_
  refine hK31 _ _ ?_
  refine Fw.condF rfl ?_
  refine Fw.exit ?_
  refine Fw.X_exit ?_
  refine Fw.X_exit ?_
  refine Fw.X_block ?_
  refine hK27 _ _ (Fw.FC.sub (f' := [(7, _)]) (.cons rfl .nil) ?_)
  refine Fw.seq fun _ hK53 => ?_
  refine Fw.region ?_
  refine Fw.s (Fw.val_move rfl) rfl ?_
  refine Fw.s (Fw.val_assign rfl) rfl ?_
  refine Fw.nil ?_
  refine hK53 _ _ ?_
  refine Fw.ret ?_
  refine Fw.ret_ [.tmp 6] [_] Try.results76 (.tmp rfl .nil) ?_
  obtain rfl : k = N := by omega
  exact ⟨_, _, rfl, HL, HB⟩

end Go.Proofs.Ytmacmlgjejdhpaa
