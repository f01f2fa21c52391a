/- Layer 9: search. -/
import Derived.Test.YtodhpooddmeghaaRgC
import Derived.Test.YtodhpooddmeghaaSpC
namespace Go.Proofs.Ytodhpooddmeghaa
set_option linter.unusedSimpArgs false
set_option linter.unusedVariables false
open Go.RowKit

namespace Rg
theorem ints_val (xs : List Nat) : ints xs = xs.attach.map fun x => Value.int .i64 (x.val : Int) := by
  unfold ints
  conv => lhs; rw [← List.attach_map_subtype_val xs]
  rw [List.map_map]; rfl
theorem arc_s {N : Nat} {E : List Ed} {ws : List Int} {fwd : Bool} {i : Nat} (h : i < E.length) : (arcs N E ws fwd).s i = if fwd then E[i].f else E[i].t := by
  show (E[i]?.map _).getD 0 = _
  rw [List.getElem?_eq_getElem h]; cases fwd <;> rfl
theorem arc_t {N : Nat} {E : List Ed} {ws : List Int} {fwd : Bool} {i : Nat} (h : i < E.length) : (arcs N E ws fwd).t i = if fwd then E[i].t else E[i].f := by
  show (E[i]?.map _).getD 0 = _
  rw [List.getElem?_eq_getElem h]; cases fwd <;> rfl
theorem inf_step {n k : Nat} (hk : k < n) : (List.replicate k Sp.INF ++ List.replicate (n - k) 0).set k Sp.INF = List.replicate (k + 1) Sp.INF ++ List.replicate (n - (k + 1)) 0 := by
  rw [List.set_append_right _ _ (by simp), List.length_replicate, Nat.sub_self, show n - k = (n - (k + 1)) + 1 by omega, List.replicate_succ, List.set_cons_zero, List.replicate_succ', List.append_assoc]
  rfl
theorem take_succ' {l : List Int} {k : Nat} (hk : k < l.length) : l.take (k + 1) = l.take k ++ [l[k]] := by rw [List.take_succ_eq_append_getElem hk]
theorem take_no {l : List Int} {k : Nat} (hk : k < l.length) {v : Int} (h : ¬ l[k] = v) : v ∈ l.take k ↔ v ∈ l.take (k + 1) := by
  rw [take_succ' hk, List.mem_append]; exact ⟨.inl, fun h' => h'.elim id fun e => absurd (List.mem_singleton.1 e).symm h⟩
theorem take_at {l : List Int} {k : Nat} (hk : k < l.length) {u : Nat} (hu : l[k] = u) (v : Nat) : ((v : Int) ∈ l.take k ∨ v = u) ↔ (v : Int) ∈ l.take (k + 1) := by
  rw [take_succ' hk, hu, List.mem_append, List.mem_singleton]; exact or_congr Iff.rfl ⟨fun e => by rw [e], fun e => by omega⟩
theorem QAt.nil {w : World} {gq : Nat} (h : Blk w gq 134 #[.slice none 0 0]) : QAt w gq gq [] := ⟨none, 0, h, ⟨rfl, .inl ⟨rfl, rfl⟩⟩, rfl⟩
theorem run_app {A : Sp.Arcs} {W : Int} {src : Nat → Prop} {d q : List Int} {v : Nat} {K : Nat → Prop} {pre : List {i // K i}} {x : {i // K i}} (h : Sp.Run A W src d q (fun j => (A.s j = v ∧ ∀ y ∈ pre, y.val ≠ j) ∧ j ≠ x.val)) : Sp.Run A W src d q (fun j => A.s j = v ∧ ∀ y ∈ pre ++ [x], y.val ≠ j) :=
  h.rest fun j _ hj => ⟨hj.1.1, fun y hy => by
    rcases List.mem_append.1 hy with hy | hy
    exact hj.1.2 y hy
    rw [List.mem_singleton.1 hy]; exact fun e => hj.2 e.symm⟩
end Rg
set_option maxRecDepth 100000 in
set_option maxHeartbeats 4000000 in
theorem searchT_any (w : World) (g : Nat) (N : Nat) (E : List Rg.Ed) (hG : Rg.GAt w g N E) (hEl : E.length ≤ 65536) (Aw : Option Addr) (ws : List Int) (cw : Nat) (hws : Rd w Aw (ws.map (.int .i64))) (W : Int) (hW0 : 0 ≤ W) (hWo : Rg.WOk E.length W ws) (hN : N ≤ 4096) (hEO : Rg.EOk N E) (hNW : (N : Int) * W ≤ 8796093022208) (hNK : (N : Int) * (N * W + 1) ≤ 8796093022208) (hW1 : W ≤ 8796093022208) (An : Option Addr) (ends : List Int) (cn : Nat) (hnl : ends.length ≤ 65536) (hen : Rd w An (ends.map (.int .i64))) : Calls Try.prog 65 #[.pointer (some ⟨g, 0, none⟩), .slice Aw E.length cw, .slice An ends.length cn, .bool false] w fun e_ w' => ∃ A' c' dl, e_ = .returned (.slice A' N c') ∧ w'.ownsRow w.heap.size 2 1 (.slice A' N c') N (dl.map (.int .i64)) ∧ dl.length = N ∧ Sp.IsDist (Rg.arcs N E ws false) W (fun v => (v : Int) ∈ ends) (Sp.ix dl) ∧ Below w.heap.size w w' := by
  obtain ⟨Ae, ce, Ao, co, Ai, ci, svO, svI, hg⟩ := hG
  have hG : Rg.GAt w g N E := ⟨Ae, ce, Ao, co, Ai, ci, svO, svI, hg⟩
  have hA : Sp.Arcs.Ok (Rg.arcs N E ws false) W := Rg.arcs_ok hEO hWo
  have hWI : (N : Int) * W < Sp.INF := by show (N : Int) * W < 4611686018427387904; omega
  have hWl : ws.length = E.length := hWo.1
  have hNW0 : 0 ≤ (N : Int) * W := Sp.nw0 (Rg.arcs N E ws false) hW0
  refine Fw.callsM Try.func65 rfl Try.ntmps65 rfl ?_
  have HM := Fw.Marks.nil w (w.heap.size)
  have HB := Below.refl (w.heap.size) w
  refine Fw.seq fun _ hK1 => ?_
  refine Fw.region ?_
  refine Fw.box rfl rfl ?_
  intro w1 gn egn Hn hb
  have lgn : w.heap.size ≤ gn := by have := HB.size; omega
  replace HM := HM.low hb
  replace HB := HB.trans (hb.mono HB.size)
  clear hb
  clear egn
  refine Fw.box rfl rfl ?_
  intro w2 gw egw Hw hb
  have n_gn_gw : gn < gw := by have := Hn.lt; omega
  have lgw : w.heap.size ≤ gw := by have := HB.size; omega
  replace HM := HM.low hb
  replace Hn := Hn.low hb
  replace HB := HB.trans (hb.mono HB.size)
  clear hb
  clear egw
  refine Fw.box rfl rfl ?_
  intro w3 gf egf Hf hb
  have n_gn_gf : gn < gf := by have := Hn.lt; omega
  have n_gw_gf : gw < gf := by have := Hw.lt; omega
  have lgf : w.heap.size ≤ gf := by have := HB.size; omega
  replace HM := HM.low hb
  replace Hn := Hn.low hb
  replace Hw := Hw.low hb
  replace HB := HB.trans (hb.mono HB.size)
  clear hb
  clear egf
  refine Fw.s (Fw.val_assign rfl) rfl ?_
  refine Fw.nil ?_
  refine hK1 _ _ ?_
  refine Fw.seq fun _ hK2 => ?_
  refine Fw.region ?_
  refine Fw.ld sc24 rfl (Hn.cell 0) rfl ?_
  refine Fw.call cf29 rfl rfl (nodes_any _ g N E (hG.low HB)) ?_
  rintro e_ _ ⟨rfl, rfl⟩
  refine ⟨_, rfl, ?_⟩
  refine Fw.makeG N sl123 zi2 rfl rfl rfl rfl (by omega) (by unfold maxLen; omega) HB.size rfl ?_
  intro w4 gL egL HL hb
  have n_gn_gL : gn < gL := by have := Hn.lt; omega
  have n_gw_gL : gw < gL := by have := Hw.lt; omega
  have n_gf_gL : gf < gL := by have := Hf.lt; omega
  rw [Fw.made (cells := fun (x : Int) => [Value.int .i64 x]) (m := 1) (0 : Int) (Value.cells (.int .i64 0)) rfl rfl] at HL
  have lgL : w.heap.size ≤ gL := by have := HB.size; omega
  replace HM := HM.low hb
  replace Hn := Hn.low hb
  replace Hw := Hw.low hb
  replace Hf := Hf.low hb
  replace HB := HB.trans (hb.mono HB.size)
  clear hb
  clear egL
  replace HL : World.ownsRow w4 w.heap.size 2 1 (.slice (some ⟨gL, 0, none⟩) N N) N ((List.replicate 0 Sp.INF ++ List.replicate (N - 0) 0).map (.int .i64)) := by simpa [List.flatMap_replicate] using HL
  refine Fw.alloc ze123 rfl ?_
  intro w5 gx egx Hx hb
  have n_gL_gx : gL < gx := by have := (HL.lt gL rfl).2; omega
  have n_gn_gx : gn < gx := by have := Hn.lt; omega
  have n_gw_gx : gw < gx := by have := Hw.lt; omega
  have n_gf_gx : gf < gx := by have := Hf.lt; omega
  have lgx : w.heap.size ≤ gx := by have := HB.size; omega
  replace HM := HM.low hb
  replace Hn := Hn.low hb
  replace Hw := Hw.low hb
  replace Hf := Hf.low hb
  replace HL := own_below HL hb (Nat.le_refl _)
  replace HB := HB.trans (hb.mono HB.size)
  clear hb
  clear egx
  refine Fw.store sz123 rfl rfl Hx rfl rfl rfl ?_
  intro w6 N_ hc
  replace HM := HM.keep (Fw.kf_chg hc Hx).mono_
  replace Hn := Hn.chg hc (by omega)
  replace Hw := Hw.chg hc (by omega)
  replace Hf := Hf.chg hc (by omega)
  replace HL := own_to HL hc (fun g_ h_ e_ => by injection h_ with h_; have h_ : gL = g_ := h_; have e_ : g_ = gx := e_; omega)
  replace HB := HB.trans (hc.below (B := w.heap.size) (fun k e => by omega) HB.size)
  clear hc
  clear Hx
  have Hx := N_
  clear N_
  refine Fw.nil ?_
  refine hK2 _ _ (Fw.FC.sub (f' := [(9, _), (7, _), (5, _), (4, _), (2, _)]) (.cons rfl (.cons rfl (.cons rfl (.cons rfl (.cons rfl .nil))))) ?_)
  refine Fw.seq fun _ hK3 => ?_
  refine Fw.seq fun _ hK4 => ?_
  refine Fw.region ?_
  refine Fw.ld sc123 rfl (Hx.cell 0) rfl ?_
  refine Fw.s (Fw.val_len Try.underlying123 rfl) rfl ?_
  refine Fw.s (Fw.val_move rfl) rfl ?_
  refine Fw.nil ?_
  refine hK4 _ _ ?_
  refine Fw.block ?_
  refine Fw.loop (fun m_ f_ W_ => ∃ (k : Nat), m_ = N - k ∧ k ≤ N ∧ Fw.Marks W_ w.heap.size [] ∧ Blk W_ gn 24 #[.pointer (some ⟨g, 0, none⟩)] ∧ Blk W_ gw 123 #[.slice Aw E.length cw] ∧ Blk W_ gf 4 #[.bool false] ∧ World.ownsRow W_ w.heap.size 2 1 (.slice (some ⟨gL, 0, none⟩) N N) N ((List.replicate k Sp.INF ++ List.replicate (N - k) 0).map (.int .i64)) ∧ Blk W_ gx 123 #[.slice (some ⟨gL, 0, none⟩) N N] ∧ Below (w.heap.size) w W_ ∧ f_ = [(26, .int .i64 k), (25, .int .i64 N), (9, .pointer (some ⟨gx, 0, none⟩)), (7, .pointer (some ⟨gf, 0, none⟩)), (5, .pointer (some ⟨gw, 0, none⟩)), (4, .pointer (some ⟨gn, 0, none⟩)), (2, .slice An ends.length cn)]) ⟨_, _, ⟨0, rfl, Nat.zero_le _, HM, Hn, Hw, Hf, HL, Hx, HB, rfl⟩, (.cons rfl (.cons rfl (.cons rfl (.cons rfl (.cons rfl (.cons rfl (.cons rfl .nil)))))))⟩ ?_
  clear HM Hn Hw Hf HL Hx HB
  rintro m5_ _ w7 ⟨k, hm5_, hkn, HM, Hn, Hw, Hf, HL, Hx, HB, rfl⟩
  refine Fw.seq fun _ hK6 => ?_
  refine Fw.region ?_
  refine Fw.s2 (Fw.val_bin rfl rfl Fw.b_lss) rfl ?_ ?_
  rintro hl1
  refine Fw.nil ?_
  refine hK6 _ _ ?_
  refine Fw.seq fun _ hK8 => ?_
  refine Fw.condT rfl ?_
  refine Fw.skip ?_
  refine hK8 _ _ ?_
  refine Fw.seq fun _ hK9 => ?_
  refine Fw.block ?_
  refine Fw.seq fun _ hK10 => ?_
  have hkN : k < N := by omega
  refine Fw.region ?_
  refine Fw.s (Fw.val_move rfl) rfl ?_
  refine Fw.s (Fw.val_assign rfl) rfl ?_
  refine Fw.nil ?_
  refine hK10 _ _ ?_
  refine Fw.region ?_
  refine Fw.ld sc123 rfl (Hx.cell 0) rfl ?_
  refine Fw.s (Fw.val_move rfl) rfl ?_
  have EW11 := True.intro
  refine Fw.s (Fw.val_indexR Try.underlying123 sz2 rfl rfl rfl rfl hkN (by rw [Fw.add_flat, Nat.zero_add, Nat.mul_one])) rfl ?_
  refine Fw.storeR sz2 rfl rfl HL (by simp; omega) rfl rfl ?_
  intro w8 N_ hc
  replace HM := HM.keep (Fw.kf_row hc HL).mono_
  replace Hn := Hn.chg hc (by omega)
  replace Hw := Hw.chg hc (by omega)
  replace Hf := Hf.chg hc (by omega)
  replace Hx := Hx.chg hc (by omega)
  replace HB := HB.trans (hc.below (B := w.heap.size) (fun k e => by omega) HB.size)
  clear hc
  clear HL EW11
  have HL := N_
  clear N_
  replace HL : World.ownsRow w8 w.heap.size 2 1 (.slice (some ⟨gL, 0, none⟩) N N) N ((List.replicate (k + 1) Sp.INF ++ List.replicate (N - (k + 1)) 0).map (.int .i64)) := by rw [← Rg.inf_step hkN]; simpa using HL
  refine Fw.nil ?_
  refine Fw.X_blockN ?_
  refine hK9 _ _ ?_
  refine Fw.region ?_
  refine Fw.s (Fw.val_bin rfl rfl (Fw.b_add (Fw.i64_ok (by omega)))) rfl ?_
  refine Fw.s (Fw.val_move rfl) rfl ?_
  refine Fw.nil ?_
  refine Fw.roundEnd _ _ (by omega) ⟨k + 1, rfl, by omega, HM, Hn, Hw, Hf, HL, Hx, HB, rfl⟩ (.cons rfl (.cons rfl (.cons rfl (.cons rfl (.cons rfl (.cons rfl (.cons rfl .nil)))))))
  rintro hl1
  refine Fw.nil ?_
  refine hK6 _ _ ?_
  refine Fw.seq fun _ hK13 => ?_
  refine Fw.condF rfl ?_
  refine Fw.exit ?_
  refine Fw.X_exit ?_
  refine Fw.X_exit ?_
  refine Fw.X_block ?_
  refine hK3 _ _ ?_
  refine Fw.seq fun _ hK14 => ?_
  refine Fw.region ?_
  refine Fw.alloc ze134 rfl ?_
  intro w9 gq egq Hq hb
  have n_gL_gq : gL < gq := by have := (HL.lt gL rfl).2; omega
  have n_gn_gq : gn < gq := by have := Hn.lt; omega
  have n_gw_gq : gw < gq := by have := Hw.lt; omega
  have n_gf_gq : gf < gq := by have := Hf.lt; omega
  have n_gx_gq : gx < gq := by have := Hx.lt; omega
  have lgq : w.heap.size ≤ gq := by have := HB.size; omega
  replace HM := HM.low hb
  replace Hn := Hn.low hb
  replace Hw := Hw.low hb
  replace Hf := Hf.low hb
  replace HL := own_below HL hb (Nat.le_refl _)
  replace Hx := Hx.low hb
  replace HB := HB.trans (hb.mono HB.size)
  clear hb
  clear egq
  refine Fw.nil ?_
  refine hK14 _ _ ?_
  refine Fw.seq fun _ hK15 => ?_
  refine Fw.seq fun _ hK16 => ?_
  refine Fw.region ?_
  refine Fw.s (Fw.val_move rfl) rfl ?_
  refine Fw.s (Fw.val_len Try.underlying47 rfl) rfl ?_
  refine Fw.s (Fw.val_move rfl) rfl ?_
  refine Fw.nil ?_
  refine hK16 _ _ ?_
  refine Fw.block ?_
  have HQ : Rg.QAt w9 gq gq [] := Rg.QAt.nil Hq
  clear Hq
  have hk_ : k = N := by omega
  rw [hk_, Nat.sub_self, List.replicate_zero, List.append_nil] at HL
  refine Fw.loop (fun m_ f_ W_ => ∃ (k : Nat) (d : List Int) (q : List Int) (rb : Nat), m_ = ends.length - k ∧ k ≤ ends.length ∧ Sp.Run (Rg.arcs N E ws false) W (fun v => (v : Int) ∈ ends.take k) d q (fun _ => False) ∧ w.heap.size ≤ rb ∧ Fw.Marks W_ w.heap.size [] ∧ Blk W_ gn 24 #[.pointer (some ⟨g, 0, none⟩)] ∧ Blk W_ gw 123 #[.slice Aw E.length cw] ∧ Blk W_ gf 4 #[.bool false] ∧ World.ownsRow W_ w.heap.size 2 1 (.slice (some ⟨gL, 0, none⟩) N N) N ((d).map (.int .i64)) ∧ Blk W_ gx 123 #[.slice (some ⟨gL, 0, none⟩) N N] ∧ Rg.QAt W_ gq rb q ∧ Below (w.heap.size) w W_ ∧ f_ = [(35, .int .i64 k), (34, .int .i64 ends.length), (33, .slice An ends.length cn), (11, .pointer (some ⟨gq, 0, none⟩)), (9, .pointer (some ⟨gx, 0, none⟩)), (7, .pointer (some ⟨gf, 0, none⟩)), (5, .pointer (some ⟨gw, 0, none⟩)), (4, .pointer (some ⟨gn, 0, none⟩))]) ⟨_, _, ⟨0, List.replicate N Sp.INF, [], gq, rfl, Nat.zero_le _, (Sp.Run.start hA (by show (N : Int) * W + 1 ≤ 4611686018427387904; omega)).ends (fun v _ => by simp), lgq, HM, Hn, Hw, Hf, HL, Hx, HQ, HB, rfl⟩, (.cons rfl (.cons rfl (.cons rfl (.cons rfl (.cons rfl (.cons rfl (.cons rfl (.cons rfl .nil))))))))⟩ ?_
  clear HM Hn Hw Hf HL Hx HQ HB
  rintro m17_ _ w10 ⟨k, d, q, rb, hm17_, hkn, hI, hlr, HM, Hn, Hw, Hf, HL, Hx, HQ, HB, rfl⟩
  refine Fw.seq fun _ hK18 => ?_
  refine Fw.region ?_
  refine Fw.s2 (Fw.val_bin rfl rfl Fw.b_lss) rfl ?_ ?_
  rintro hl2
  refine Fw.nil ?_
  refine hK18 _ _ ?_
  refine Fw.seq fun _ hK20 => ?_
  refine Fw.condT rfl ?_
  refine Fw.skip ?_
  refine hK20 _ _ ?_
  refine Fw.seq fun _ hK21 => ?_
  refine Fw.block ?_
  refine Fw.seq fun _ hK22 => ?_
  have hkl : k < ends.length := by omega
  obtain ⟨ad, b_, o_, hAd, hadd, HE⟩ := Fw.rdAtM hen k hkl
  refine Fw.region ?_
  refine Fw.s (Fw.val_indexR Try.underlying47 sz3 rfl hAd rfl rfl hkl hadd) rfl ?_
  refine Fw.ld sc3 rfl (((HB.cell (World.block_lt_of_cell? _ _ HE)).trans HE)) rfl ?_
  refine Fw.s (Fw.val_assign rfl) rfl ?_
  refine Fw.nil ?_
  refine hK22 _ _ ?_
  refine Fw.seq fun _ hK24 => ?_
  refine Fw.region ?_
  refine Fw.ld sc24 rfl (Hn.cell 0) rfl ?_
  refine Fw.s (Fw.val_move rfl) rfl ?_
  refine Fw.call cf63 rfl rfl (isNode_any _ g N E (hG.low HB) ends[k]) ?_
  rintro e_ _ ⟨rfl, rfl⟩
  refine ⟨_, rfl, ?_⟩
  refine Fw.b2 ?_ ?_
  rintro hq1
  have hq1 := of_decide_eq_true hq1
  obtain ⟨u, hu, huN⟩ : ∃ u : Nat, ends[k] = (u : Int) ∧ u < N := ⟨ends[k].toNat, by omega, by omega⟩
  have hdl : d.length = N := hI.inv.len
  have hud : u < d.length := by omega
  refine Fw.s (Fw.val_move rfl) rfl ?_
  refine Fw.gT (d := 42) rfl rfl ?_
  refine Fw.ld sc123 rfl (Hx.cell 0) rfl ?_
  refine Fw.gT (d := 42) rfl rfl ?_
  refine Fw.s (Fw.val_move rfl) rfl ?_
  refine Fw.gT (d := 42) rfl rfl ?_
  have HC_ := Rg.own_cell HL _ hud
  refine Fw.s (Fw.val_indexR Try.underlying123 sz2 rfl rfl rfl hu huN (by rw [Fw.add_flat, Nat.zero_add, Nat.mul_one])) rfl ?_
  refine Fw.gT (d := 42) rfl rfl ?_
  refine Fw.ld sc2 rfl (HC_) rfl ?_
  refine Fw.gT (d := 42) rfl rfl ?_
  refine Fw.s2 (Fw.val_bin rfl rfl Fw.b_neq) rfl ?_ ?_
  rintro hq2
  refine Fw.s (Fw.val_pickT rfl rfl) rfl ?_
  refine Fw.nil ?_
  refine hK24 _ _ (Fw.FC.sub (f' := [(48, _), (47, _), (46, _), (45, _), (44, _), (43, _), (13, _), (35, _), (34, _), (33, _), (11, _), (9, _), (7, _), (5, _), (4, _)]) (.cons rfl (.cons rfl (.cons rfl (.cons rfl (.cons rfl (.cons rfl (.cons rfl (.cons rfl (.cons rfl (.cons rfl (.cons rfl (.cons rfl (.cons rfl (.cons rfl (.cons rfl .nil))))))))))))))) ?_)
  refine Fw.condT rfl ?_
  refine Fw.seq fun _ hK27 => ?_
  refine Fw.region ?_
  refine Fw.ld sc123 rfl (Hx.cell 0) rfl ?_
  refine Fw.s (Fw.val_move rfl) rfl ?_
  have EW28 := True.intro
  refine Fw.s (Fw.val_indexR Try.underlying123 sz2 rfl rfl rfl hu huN (by rw [Fw.add_flat, Nat.zero_add, Nat.mul_one])) rfl ?_
  refine Fw.storeR sz2 rfl rfl HL (by simpa using hud) rfl rfl ?_
  intro w11 N_ hc
  replace HM := HM.keep (Fw.kf_row hc HL).mono_
  replace Hn := Hn.chg hc (by omega)
  replace Hw := Hw.chg hc (by omega)
  replace Hf := Hf.chg hc (by omega)
  replace Hx := Hx.chg hc (by omega)
  replace HQ := HQ.chg hc (by have := HQ.lt; omega) (by have := HQ.lt; omega)
  replace HB := HB.trans (hc.below (B := w.heap.size) (fun k e => by omega) HB.size)
  clear hc
  clear HL EW28
  have HL := N_
  clear N_
  replace HL : World.ownsRow w11 w.heap.size 2 1 (.slice (some ⟨gL, 0, none⟩) N N) N ((d.set u 0).map (.int .i64)) := by simpa using HL
  refine Fw.nil ?_
  refine hK27 _ _ ?_
  refine Fw.region ?_
  refine Fw.s (Fw.val_move rfl) rfl ?_
  refine Fw.call cf69 rfl rfl (push_any _ gq rb q HQ (by have : (q.length : Int) ≤ (N : Int) * (N * W + 1) := hI.qlen hW0; omega) 0 ends[k] (by omega) (by omega) (by omega) (by omega)) ?_
  rintro e_ w12 ⟨q', rb', rfl, ⟨hm, hlq⟩, HQn, hrn, hc, hkf⟩
  refine ⟨_, rfl, ?_⟩
  have hqlt := HQ.lt
  have hbs_ : w.heap.size ≤ w11.heap.size := HB.size
  replace HM := HM.keep hkf.mono_
  replace Hn := Hn.chg hc (by show ¬ (gn = gq ∨ gn = rb); omega)
  replace Hw := Hw.chg hc (by show ¬ (gw = gq ∨ gw = rb); omega)
  replace Hf := Hf.chg hc (by show ¬ (gf = gq ∨ gf = rb); omega)
  replace HL := own_to HL hc (fun g_ h_ e_ => by injection h_ with h_; have h_ : gL = g_ := h_; have e_ : g_ = gq ∨ g_ = rb := e_; omega)
  replace Hx := Hx.chg hc (by show ¬ (gx = gq ∨ gx = rb); omega)
  replace HB := HB.trans (hc.below (B := w.heap.size) (fun k e => by have e : k = gq ∨ k = rb := e; omega) HB.size)
  have hlr : w.heap.size ≤ rb' := by omega
  clear hc hqlt HQ hkf hbs_
  have HQ := HQn
  clear HQn
  rw [hu] at hm
  simp only [Int.zero_mul, Int.zero_add] at hm
  refine Fw.nil ?_
  refine Fw.X_blockN ?_
  refine hK21 _ _ (Fw.FC.sub (f' := [(47, _), (46, _), (45, _), (44, _), (43, _), (35, _), (34, _), (33, _), (11, _), (9, _), (7, _), (5, _), (4, _)]) (.cons rfl (.cons rfl (.cons rfl (.cons rfl (.cons rfl (.cons rfl (.cons rfl (.cons rfl (.cons rfl (.cons rfl (.cons rfl (.cons rfl (.cons rfl .nil))))))))))))) ?_)
  refine Fw.region ?_
  refine Fw.s (Fw.val_bin rfl rfl (Fw.b_add (Fw.i64_ok (by omega)))) rfl ?_
  refine Fw.s (Fw.val_move rfl) rfl ?_
  refine Fw.nil ?_
  refine Fw.roundEnd _ _ (by omega) ⟨k + 1, d.set u 0, q', rb', rfl, by omega, (Sp.Run.put hA hW0 (u := u) (by exact huN) hI (by rw [Sp.ix_get hud]; exact hq2) (by simpa using hm) hlq).ends (fun v hv => Rg.take_at hkl hu v), hlr, HM, Hn, Hw, Hf, HL, Hx, HQ, HB, rfl⟩ (.cons rfl (.cons rfl (.cons rfl (.cons rfl (.cons rfl (.cons rfl (.cons rfl (.cons rfl .nil))))))))
  rintro hq2
  refine Fw.s (Fw.val_pickT rfl rfl) rfl ?_
  refine Fw.nil ?_
  refine hK24 _ _ (Fw.FC.sub (f' := [(48, _), (47, _), (46, _), (45, _), (44, _), (43, _), (13, _), (35, _), (34, _), (33, _), (11, _), (9, _), (7, _), (5, _), (4, _)]) (.cons rfl (.cons rfl (.cons rfl (.cons rfl (.cons rfl (.cons rfl (.cons rfl (.cons rfl (.cons rfl (.cons rfl (.cons rfl (.cons rfl (.cons rfl (.cons rfl (.cons rfl .nil))))))))))))))) ?_)
  refine Fw.condF rfl ?_
  refine Fw.skip ?_
  refine Fw.X_blockN ?_
  refine hK21 _ _ ?_
  refine Fw.region ?_
  refine Fw.s (Fw.val_bin rfl rfl (Fw.b_add (Fw.i64_ok (by omega)))) rfl ?_
  refine Fw.s (Fw.val_move rfl) rfl ?_
  refine Fw.nil ?_
  refine Fw.roundEnd _ _ (by omega) ⟨k + 1, d, q, rb, rfl, by omega, (hI.again (u := u) (by rw [Sp.ix_get hud]; omega)).ends (fun v hv => Rg.take_at hkl hu v), hlr, HM, Hn, Hw, Hf, HL, Hx, HQ, HB, rfl⟩ (.cons rfl (.cons rfl (.cons rfl (.cons rfl (.cons rfl (.cons rfl (.cons rfl (.cons rfl .nil))))))))
  rintro hq1
  have hq1 := of_decide_eq_false hq1
  refine Fw.s (Fw.val_move rfl) rfl ?_
  refine Fw.gF (d := 42) rfl rfl rfl rfl ?_
  refine Fw.gF (d := 42) rfl rfl rfl rfl ?_
  refine Fw.gF (d := 42) rfl rfl rfl rfl ?_
  refine Fw.gF (d := 42) rfl rfl rfl rfl ?_
  refine Fw.gF (d := 42) rfl rfl rfl rfl ?_
  refine Fw.s (Fw.val_pickF rfl rfl) rfl ?_
  refine Fw.nil ?_
  refine hK24 _ _ (Fw.FC.sub (f' := [(48, _), (47, _), (46, _), (45, _), (44, _), (43, _), (13, _), (35, _), (34, _), (33, _), (11, _), (9, _), (7, _), (5, _), (4, _)]) (.cons rfl (.cons rfl (.cons rfl (.cons rfl (.cons rfl (.cons rfl (.cons rfl (.cons rfl (.cons rfl (.cons rfl (.cons rfl (.cons rfl (.cons rfl (.cons rfl (.cons rfl .nil))))))))))))))) ?_)
  refine Fw.condF rfl ?_
  refine Fw.skip ?_
  refine Fw.X_blockN ?_
  refine hK21 _ _ ?_
  refine Fw.region ?_
  refine Fw.s (Fw.val_bin rfl rfl (Fw.b_add (Fw.i64_ok (by omega)))) rfl ?_
  refine Fw.s (Fw.val_move rfl) rfl ?_
  refine Fw.nil ?_
  refine Fw.roundEnd _ _ (by omega) ⟨k + 1, d, q, rb, rfl, by omega, hI.ends (fun v hv => Rg.take_no hkl (fun e => hq1 (by have : v < N := hv; omega))), hlr, HM, Hn, Hw, Hf, HL, Hx, HQ, HB, rfl⟩ (.cons rfl (.cons rfl (.cons rfl (.cons rfl (.cons rfl (.cons rfl (.cons rfl (.cons rfl .nil))))))))
  rintro hl2
  refine Fw.nil ?_
  refine hK18 _ _ ?_
  refine Fw.seq fun _ hK30 => ?_
  refine Fw.condF rfl ?_
  refine Fw.exit ?_
  refine Fw.X_exit ?_
  refine Fw.X_exit ?_
  refine Fw.X_block ?_
  refine hK15 _ _ ?_
  refine Fw.seq fun _ hK31 => ?_
  refine Fw.region ?_
  refine Fw.ld sc24 rfl (Hn.cell 0) rfl ?_
  refine Fw.s (Fw.val_func rfl rfl) rfl ?_
  refine Fw.s (Fw.val_assign rfl) rfl ?_
  refine Fw.nil ?_
  refine hK31 _ _ ?_
  refine Fw.seq fun _ hK32 => ?_
  refine Fw.seq fun _ hK33 => ?_
  refine Fw.region ?_
  refine Fw.ld sc4 rfl (Hf.cell 0) rfl ?_
  refine Fw.nil ?_
  refine hK33 _ _ ?_
  refine Fw.condF rfl ?_
  refine Fw.skip ?_
  refine hK32 _ _ (Fw.FC.sub (f' := [(14, _), (11, _), (9, _), (7, _), (5, _), (4, _)]) (.cons rfl (.cons rfl (.cons rfl (.cons rfl (.cons rfl (.cons rfl .nil)))))) ?_)
  refine Fw.seq fun _ hK34 => ?_
  refine Fw.block ?_
  refine Fw.loopM (fun m_ ds_ f_ W_ => ∃ (d : List Int) (q : List Int) (rb : Nat), m_ = Sp.mu (Rg.arcs N E ws false) W d q ∧ Sp.Run (Rg.arcs N E ws false) W (fun v => (v : Int) ∈ ends) d q (fun _ => False) ∧ w.heap.size ≤ rb ∧ Blk W_ gn 24 #[.pointer (some ⟨g, 0, none⟩)] ∧ Blk W_ gw 123 #[.slice Aw E.length cw] ∧ Blk W_ gf 4 #[.bool false] ∧ World.ownsRow W_ w.heap.size 2 1 (.slice (some ⟨gL, 0, none⟩) N N) N ((d).map (.int .i64)) ∧ Blk W_ gx 123 #[.slice (some ⟨gL, 0, none⟩) N N] ∧ Rg.QAt W_ gq rb q ∧ Below (w.heap.size) w W_ ∧ f_ = [(14, .func (.func 70) #[.pointer (some ⟨g, 0, none⟩)] #[]), (11, .pointer (some ⟨gq, 0, none⟩)), (9, .pointer (some ⟨gx, 0, none⟩)), (7, .pointer (some ⟨gf, 0, none⟩)), (5, .pointer (some ⟨gw, 0, none⟩)), (4, .pointer (some ⟨gn, 0, none⟩))] ∧ Fw.Marks W_ (w.heap.size) ds_) ⟨_, _, ⟨d, q, rb, rfl, (hI.ends (fun v _ => by rw [List.take_of_length_le (by omega)])), hlr, Hn, Hw, Hf, HL, Hx, HQ, HB, rfl, HM⟩, (.cons rfl (.cons rfl (.cons rfl (.cons rfl (.cons rfl (.cons rfl .nil))))))⟩ ?_
  clear HM
  clear Hn Hw Hf HL Hx HQ HB
  rintro m35_ ds_ _ w13 ⟨d, q, rb, hm35_, hI, hlr, Hn, Hw, Hf, HL, Hx, HQ, HB, rfl, HM⟩
  refine Fw.seq fun _ hK36 => ?_
  refine Fw.seq fun _ hK37 => ?_
  obtain ⟨Aq, cq, Hq, -, -⟩ := id HQ
  refine Fw.region ?_
  refine Fw.ld sc134 rfl (Hq.cell 0) rfl ?_
  refine Fw.s (Fw.val_len Try.underlying134 rfl) rfl ?_
  refine Fw.s2 (Fw.val_bin rfl rfl Fw.b_gtr) rfl ?_ ?_
  rintro hl3
  refine Fw.nil ?_
  refine hK37 _ _ ?_
  refine Fw.condT rfl ?_
  refine Fw.skip ?_
  refine hK36 _ _ ?_
  refine Fw.block ?_
  refine Fw.seq fun _ hK39 => ?_
  clear Hq
  refine Fw.region ?_
  refine Fw.call cf71 rfl rfl (pop_any _ gq rb q HQ (by have : (q.length : Int) ≤ (N : Int) * (N * W + 1) := hI.qlen hW0; omega) (by omega) (fun y hy => by obtain ⟨v, δ, h1, h2, h3, h4, h5⟩ : ∃ (v : Nat) (δ : Int), v < N ∧ y = δ * 4096 + v ∧ Sp.ix d v ≤ δ ∧ δ ≤ (N : Int) * W ∧ 0 ≤ Sp.ix d v := hI.ent hy; omega)) ?_
  rintro e_ w14 ⟨x, q1, rb1, rfl, ⟨hm1, hlq1⟩, HQn, hrn, hc, hkf⟩
  refine ⟨_, rfl, ?_⟩
  have hqlt := HQ.lt
  have hbs_ : w.heap.size ≤ w13.heap.size := HB.size
  replace HM := HM.keep hkf.mono_
  replace Hn := Hn.chg hc (by show ¬ (gn = gq ∨ gn = rb); omega)
  replace Hw := Hw.chg hc (by show ¬ (gw = gq ∨ gw = rb); omega)
  replace Hf := Hf.chg hc (by show ¬ (gf = gq ∨ gf = rb); omega)
  replace HL := own_to HL hc (fun g_ h_ e_ => by injection h_ with h_; have h_ : gL = g_ := h_; have e_ : g_ = gq ∨ g_ = rb := e_; omega)
  replace Hx := Hx.chg hc (by show ¬ (gx = gq ∨ gx = rb); omega)
  replace HB := HB.trans (hc.below (B := w.heap.size) (fun k e => by have e : k = gq ∨ k = rb := e; omega) HB.size)
  have hlr : w.heap.size ≤ rb1 := by omega
  clear hc hqlt HQ hkf hbs_
  have HQ := HQn
  clear HQn
  obtain ⟨v, δ, hvN, hxe, hdv, hδN, hd0⟩ : ∃ (v : Nat) (δ : Int), v < N ∧ x = δ * 4096 + v ∧ Sp.ix d v ≤ δ ∧ δ ≤ (N : Int) * W ∧ 0 ≤ Sp.ix d v := hI.ent ((hm1 x).2 (.inl rfl))
  have ex1 : x / 4096 = δ := by omega
  have ex2 : x % 4096 = (v : Int) := by omega
  rw [ex1, ex2]
  have hdl : d.length = N := hI.inv.len
  have hvd : v < d.length := by omega
  have hdx : d[v] ≤ δ := by rw [Sp.ix_get hvd] at hdv; exact hdv
  refine Fw.s (Fw.val_move rfl) rfl ?_
  refine Fw.s (Fw.val_extract rfl rfl) rfl ?_
  refine Fw.s (Fw.val_extract rfl rfl) rfl ?_
  refine Fw.alloc ze2 rfl ?_
  intro w15 gdd egdd Hdd hb
  have hqlt := HQ.lt
  have n_gL_gdd : gL < gdd := by have := (HL.lt gL rfl).2; omega
  have n_gq_gdd : gq < gdd := by omega
  have hddr : rb1 ≠ gdd := by omega
  clear hqlt
  have n_gn_gdd : gn < gdd := by have := Hn.lt; omega
  have n_gw_gdd : gw < gdd := by have := Hw.lt; omega
  have n_gf_gdd : gf < gdd := by have := Hf.lt; omega
  have n_gx_gdd : gx < gdd := by have := Hx.lt; omega
  have lgdd : w.heap.size ≤ gdd := by have := HB.size; omega
  replace HM := HM.low hb
  replace Hn := Hn.low hb
  replace Hw := Hw.low hb
  replace Hf := Hf.low hb
  replace HL := own_below HL hb (Nat.le_refl _)
  replace Hx := Hx.low hb
  replace HQ := HQ.low hb
  replace HB := HB.trans (hb.mono HB.size)
  clear hb
  clear egdd
  refine Fw.store sz2 rfl rfl Hdd rfl rfl rfl ?_
  intro w16 N_ hc
  replace HM := HM.keep (Fw.kf_chg hc Hdd).mono_
  replace Hn := Hn.chg hc (by omega)
  replace Hw := Hw.chg hc (by omega)
  replace Hf := Hf.chg hc (by omega)
  replace HL := own_to HL hc (fun g_ h_ e_ => by injection h_ with h_; have h_ : gL = g_ := h_; have e_ : g_ = gdd := e_; omega)
  replace Hx := Hx.chg hc (by omega)
  replace HQ := HQ.chg hc (by have := HQ.lt; omega) (by have := HQ.lt; omega)
  replace HB := HB.trans (hc.below (B := w.heap.size) (fun k e => by omega) HB.size)
  clear hc
  clear Hdd
  have Hdd := N_
  clear N_
  replace Hdd : Blk w16 gdd 2 #[.int .i64 δ] := Hdd
  refine Fw.s (Fw.val_assign rfl) rfl ?_
  refine Fw.nil ?_
  refine hK39 _ _ (Fw.FC.sub (f' := [(16, _), (15, _), (14, _), (11, _), (9, _), (7, _), (5, _), (4, _)]) (.cons rfl (.cons rfl (.cons rfl (.cons rfl (.cons rfl (.cons rfl (.cons rfl (.cons rfl .nil)))))))) ?_)
  refine Fw.seq fun _ hK40 => ?_
  refine Fw.seq fun _ hK41 => ?_
  refine Fw.regionQ (by kernel_rfl) (by kernel_rfl) ?_
  refine Fw.ldQ sc2 rfl (Hdd.cell 0) rfl ?_
  refine Fw.ldQ sc123 rfl (Hx.cell 0) rfl ?_
  refine Fw.q (Fw.val_move rfl) rfl ?_
  have HC_ := Rg.own_cell HL _ hvd
  refine Fw.q (Fw.val_indexR Try.underlying123 sz2 rfl rfl rfl rfl hvN (by rw [Fw.add_flat, Nat.zero_add, Nat.mul_one])) rfl ?_
  refine Fw.ldQ sc2 rfl (HC_) rfl ?_
  refine Fw.q2 (Fw.val_bin rfl rfl Fw.b_gtr) rfl ?_ ?_
  rintro hq4
  refine Fw.nilQ ?_
  intro w17 hb
  clear HC_
  replace HM := HM.low hb
  replace Hn := Hn.low hb
  replace Hw := Hw.low hb
  replace Hf := Hf.low hb
  replace HL := own_below HL hb (Nat.le_refl _)
  replace Hx := Hx.low hb
  replace HQ := HQ.low hb
  replace Hdd := Hdd.low hb
  replace HB := HB.trans (hb.mono HB.size)
  clear hb
  refine hK41 _ _ ?_
  refine Fw.condT rfl ?_
  refine Fw.exit ?_
  refine Fw.X_exit ?_
  refine Fw.X_block ?_
  refine Fw.roundEndM _ _ (by have : Sp.mu (Rg.arcs N E ws false) W d q1 < Sp.mu (Rg.arcs N E ws false) W d q := Sp.mu_pop hlq1; omega) ⟨d, q1, rb1, rfl, Sp.Run.old hA hI hm1 hlq1 hxe (by omega) (by exact hN) (by rw [Sp.ix_get hvd]; omega), hlr, Hn, Hw, Hf, HL, Hx, HQ, HB, rfl, HM⟩ (.cons rfl (.cons rfl (.cons rfl (.cons rfl (.cons rfl (.cons rfl .nil))))))
  rintro hq4
  refine Fw.nilQ ?_
  intro w18 hb
  clear HC_
  replace HM := HM.low hb
  replace Hn := Hn.low hb
  replace Hw := Hw.low hb
  replace Hf := Hf.low hb
  replace HL := own_below HL hb (Nat.le_refl _)
  replace Hx := Hx.low hb
  replace HQ := HQ.low hb
  replace Hdd := Hdd.low hb
  replace HB := HB.trans (hb.mono HB.size)
  clear hb
  refine hK41 _ _ ?_
  refine Fw.condF rfl ?_
  refine Fw.skip ?_
  refine hK40 _ _ ?_
  refine Fw.seq fun _ hK44 => ?_
  obtain ⟨Bv, cv, hsv, hxv⟩ := hg.inn.2 v hvN
  have hδd : d[v] = δ := by omega
  refine Fw.region ?_
  refine Fw.s (Fw.val_move rfl) rfl ?_
  refine Fw.s (Fw.val_move rfl) rfl ?_
  refine Fw.callV cf70 rfl rfl rfl rfl (inEdges_any _ g N E Ae ce Ao co Ai ci svO svI (hg.low HB) v) ?_
  rintro e_ w19 ⟨gl, gv, rfl, HGL, HGV, hb⟩
  refine ⟨_, rfl, ?_⟩
  replace HM := HM.low hb
  replace Hn := Hn.low hb
  replace Hw := Hw.low hb
  replace Hf := Hf.low hb
  replace HL := own_below HL hb (Nat.le_refl _)
  replace Hx := Hx.low hb
  replace HQ := HQ.low hb
  replace Hdd := Hdd.low hb
  replace HB := HB.trans (hb.mono HB.size)
  clear hb
  refine Fw.nil ?_
  refine hK44 _ _ (Fw.FC.sub (f' := [(75, _), (15, _), (14, _), (11, _), (9, _), (7, _), (5, _), (4, _)]) (.cons rfl (.cons rfl (.cons rfl (.cons rfl (.cons rfl (.cons rfl (.cons rfl (.cons rfl .nil)))))))) ?_)
  refine Fw.block ?_
  have hBr_ : w.heap.size ≤ w19.heap.size := HB.size
  refine Fw.range (enc := fun (x : {i // i ∈ Rg.adj Rg.Ed.t E v}) => .int .i64 (x.val : Int)) (n₀ := w.heap.size) rfl cf73 rfl rfl rfl (enum_stops (fun (x : {i // i ∈ Rg.adj Rg.Ed.t E v}) => x.val) (Rg.adj Rg.Ed.t E v).attach w w19 gv gl v Ai N ci svI Bv cv (by rw [List.length_attach]; exact Nat.le_trans Rg.adj_len hEl) HB HGL HGV hvN hg.inn.1 (List.getElem?_eq_some_iff.1 hsv).1 (by rw [List.length_attach]; exact (List.getElem?_eq_some_iff.1 hsv).2) (by rw [← Rg.ints_val]; exact hxv)) (Below.refl _ _) hBr_
    (fun (pre_ : List {i // i ∈ Rg.adj Rg.Ed.t E v}) W_ => ∃ (d' : List Int) (q' : List Int) (rb' : Nat), Sp.Run (Rg.arcs N E ws false) W (fun v => (v : Int) ∈ ends) d' q' (fun i => (Rg.arcs N E ws false).s i = v ∧ ∀ x ∈ pre_, x.val ≠ i) ∧ Sp.ix d' v = δ ∧ Sp.mu (Rg.arcs N E ws false) W d' q' ≤ Sp.mu (Rg.arcs N E ws false) W d q1 ∧ w.heap.size ≤ rb' ∧ rb' ≠ gdd ∧ Blk W_ gn 24 #[.pointer (some ⟨g, 0, none⟩)] ∧ Blk W_ gw 123 #[.slice Aw E.length cw] ∧ Blk W_ gf 4 #[.bool false] ∧ World.ownsRow W_ w.heap.size 2 1 (.slice (some ⟨gL, 0, none⟩) N N) N ((d').map (.int .i64)) ∧ Blk W_ gx 123 #[.slice (some ⟨gL, 0, none⟩) N N] ∧ Rg.QAt W_ gq rb' q' ∧ Blk W_ gdd 2 #[.int .i64 δ] ∧ Below (w.heap.size) w W_)
    (fun (c_ : Code) (pre_ : List {i // i ∈ Rg.adj Rg.Ed.t E v}) W_ => False)
    ?hI ?hIx ?h0 ?body ?done ?stop
  case hI =>
    exact Fw.ownFrom_rng hBr_ (fun p_ W_ h_ => by
      obtain ⟨d', q', rb', hI2, hdv2, hmu, hlr, hddr, Hn, Hw, Hf, HL, Hx, HQ, Hdd, HB⟩ := h_
      exact HB.size) (fun p_ W_ W1_ h_ hk_ hb_ => by
      obtain ⟨d', q', rb', hI2, hdv2, hmu, hlr, hddr, Hn, Hw, Hf, HL, Hx, HQ, Hdd, HB⟩ := h_
      exact ⟨d', q', rb', hI2, hdv2, hmu, hlr, hddr, Hn.kp hk_ rfl, Hw.kp hk_ rfl, Hf.kp hk_ rfl, Fw.own_kp HL hk_ rfl, Hx.kp hk_ rfl, HQ.kp hk_, Hdd.kp hk_ rfl, HB.trans hb_⟩)
  case hIx =>
    exact fun _ _ _ _ _ h _ _ => h
  case h0 => exact ⟨d, q1, rb1, (Sp.Run.take hA hI hm1 hlq1 hxe (by omega) (by exact hN)).rest (fun i _ h => ⟨h, fun x hx => by cases hx⟩), (by rw [Sp.ix_get hvd]; exact hδd), Nat.le_refl _, hlr, hddr, Hn, Hw, Hf, HL, Hx, HQ, Hdd, HB⟩
  case body =>
    clear Hn Hw Hf HL Hx HQ Hdd HB
    intro pre x w20 hsz_
    rintro ⟨d', q', rb', hI2, hdv2, hmu, hlr, hddr, Hn, Hw, Hf, HL, Hx, HQ, Hdd, HB⟩ hlen_
    have hLO : Fw.NL (Fw.rpost (w.heap.size) (fun (pre_ : List {i // i ∈ Rg.adj Rg.Ed.t E v}) W_ => ∃ (d' : List Int) (q' : List Int) (rb' : Nat), Sp.Run (Rg.arcs N E ws false) W (fun v => (v : Int) ∈ ends) d' q' (fun i => (Rg.arcs N E ws false).s i = v ∧ ∀ x ∈ pre_, x.val ≠ i) ∧ Sp.ix d' v = δ ∧ Sp.mu (Rg.arcs N E ws false) W d' q' ≤ Sp.mu (Rg.arcs N E ws false) W d q1 ∧ w.heap.size ≤ rb' ∧ rb' ≠ gdd ∧ Blk W_ gn 24 #[.pointer (some ⟨g, 0, none⟩)] ∧ Blk W_ gw 123 #[.slice Aw E.length cw] ∧ Blk W_ gf 4 #[.bool false] ∧ World.ownsRow W_ w.heap.size 2 1 (.slice (some ⟨gL, 0, none⟩) N N) N ((d').map (.int .i64)) ∧ Blk W_ gx 123 #[.slice (some ⟨gL, 0, none⟩) N N] ∧ Rg.QAt W_ gq rb' q' ∧ Blk W_ gdd 2 #[.int .i64 δ] ∧ Below (w.heap.size) w W_) (fun (c_ : Code) (pre_ : List {i // i ∈ Rg.adj Rg.Ed.t E v}) W_ => False) (pre ++ [x]) w20) := fun _ _ h => h
    have HRS := Below.refl (w.heap.size) w20
    have HKO := KeepsFrom.refl 0 w20
    have hBr : w.heap.size ≤ w20.heap.size := HB.size
    have hxm := Rg.mem_adj.1 x.2
    obtain ⟨hxi, hxk⟩ := hxm
    have hxw : x.val < ws.length := by omega
    have hdl2 : d'.length = N := hI2.inv.len
    have hxE := hEO _ (List.getElem_mem hxi)
    have hsd : E[x.val].f < d'.length := by omega
    have hwd := hWo.2 x.val hxi
    rw [Sp.ix_get hxw] at hwd
    obtain ⟨adw, bw_, ow_, hAw, haddw, HWc⟩ := Fw.rdAtM hws x.val hxw
    have hs2 : (Rg.arcs N E ws false).s x.val = v := by rw [Rg.arc_s hxi]; exact hxk
    have ht2 : (Rg.arcs N E ws false).t x.val = E[x.val].f := by rw [Rg.arc_t hxi]; rfl
    have hwt2 : (Rg.arcs N E ws false).wt x.val = ws[x.val] := Sp.ix_get hxw
    refine Fw.R.block ?_
    refine Fw.R.seq fun _ hK45 => ?_
    refine Fw.R.region ?_ hLO
    refine Fw.ld sc24 rfl (Hn.cell 0) rfl ?_
    refine Fw.s (Fw.val_move rfl) rfl ?_
    refine Fw.call cf54 rfl rfl (edge_any _ g N E (hG.low HB) x.val hxi) ?_
    rintro e_ w21 ⟨rfl, hb⟩
    refine ⟨_, rfl, ?_⟩
    replace Hn := Hn.low hb
    replace Hw := Hw.low hb
    replace Hf := Hf.low hb
    replace HL := own_below HL hb (Nat.le_refl _)
    replace Hx := Hx.low hb
    replace HQ := HQ.low hb
    replace Hdd := Hdd.low hb
    replace HRS := HRS.trans (hb.mono (Nat.le_trans hBr HRS.size))
    replace HKO := HKO.trans (Fw.kf_low hb)
    replace HB := HB.trans (hb.mono HB.size)
    clear hb
    refine Fw.s (Fw.val_move rfl) rfl ?_
    refine Fw.s (Fw.val_extract rfl rfl) rfl ?_
    refine Fw.s (Fw.val_extract rfl rfl) rfl ?_
    refine Fw.alloc ze29 rfl ?_
    intro w22 ge ege He hb
    have hqlt := HQ.lt
    have n_gL_ge : gL < ge := by have := (HL.lt gL rfl).2; omega
    have n_gq_ge : gq < ge := by omega
    have n_rb_ge : rb' < ge := by omega
    clear hqlt
    have n_gn_ge : gn < ge := by have := Hn.lt; omega
    have n_gw_ge : gw < ge := by have := Hw.lt; omega
    have n_gf_ge : gf < ge := by have := Hf.lt; omega
    have n_gx_ge : gx < ge := by have := Hx.lt; omega
    have n_gdd_ge : gdd < ge := by have := Hdd.lt; omega
    have lge : w.heap.size ≤ ge := by have := HB.size; omega
    replace Hn := Hn.low hb
    replace Hw := Hw.low hb
    replace Hf := Hf.low hb
    replace HL := own_below HL hb (Nat.le_refl _)
    replace Hx := Hx.low hb
    replace HQ := HQ.low hb
    replace Hdd := Hdd.low hb
    replace HRS := HRS.trans (hb.mono (Nat.le_trans hBr HRS.size))
    replace HKO := HKO.trans (Fw.kf_low hb)
    replace HB := HB.trans (hb.mono HB.size)
    clear hb
    clear ege
    refine Fw.storeW sz29 rfl rfl He rfl rfl (by exact Fw.oneCells rfl) ?_
    intro w23 N_ hc
    replace Hn := Hn.chg hc (by omega)
    replace Hw := Hw.chg hc (by omega)
    replace Hf := Hf.chg hc (by omega)
    replace HL := own_to HL hc (fun g_ h_ e_ => by injection h_ with h_; have h_ : gL = g_ := h_; have e_ : g_ = ge := e_; omega)
    replace Hx := Hx.chg hc (by omega)
    replace HQ := HQ.chg hc (by have := HQ.lt; omega) (by have := HQ.lt; omega)
    replace Hdd := Hdd.chg hc (by omega)
    replace HRS := HRS.trans (hc.below (fun k e => by omega) (Nat.le_trans hBr HRS.size))
    replace HKO := HKO.trans (Fw.kf_chg hc He)
    replace HB := HB.trans (hc.below (B := w.heap.size) (fun k e => by omega) HB.size)
    clear hc
    clear He
    have He := N_
    clear N_
    replace He : Blk w23 ge 29 #[.int .i64 (E[x.val].f : Int), .int .i64 (E[x.val].t : Int), .int .i64 E[x.val].m] := He
    refine Fw.s (Fw.val_assign rfl) rfl ?_
    refine Fw.nil ?_
    refine hK45 _ _ (Fw.R.RC.sub (f' := [(18, _), (17, _), (15, _), (11, _), (9, _), (7, _), (5, _)]) (.cons rfl (.cons rfl (.cons rfl (.cons rfl (.cons rfl (.cons rfl (.cons rfl .nil))))))) ?_)
    refine Fw.R.seq fun _ hK46 => ?_
    refine Fw.R.region ?_ hLO
    refine Fw.s (Fw.val_fieldAddr fl29_0 rfl rfl) rfl ?_
    refine Fw.ld sc3 rfl (He.cell 0) rfl ?_
    refine Fw.s (Fw.val_assign rfl) rfl ?_
    refine Fw.nil ?_
    refine hK46 _ _ ?_
    refine Fw.R.seq fun _ hK47 => ?_
    refine Fw.R.seq fun _ hK48 => ?_
    refine Fw.R.region ?_ hLO
    refine Fw.ld sc4 rfl (Hf.cell 0) rfl ?_
    refine Fw.nil ?_
    refine hK48 _ _ ?_
    refine Fw.R.condF rfl ?_
    refine Fw.R.skip ?_
    refine hK47 _ _ ?_
    refine Fw.R.seq fun _ hK49 => ?_
    refine Fw.R.regionQ (by kernel_rfl) (by kernel_rfl) ?_ hLO
    refine Fw.ldQ sc123 rfl (Hw.cell 0) rfl ?_
    refine Fw.q (Fw.val_move rfl) rfl ?_
    refine Fw.q (Fw.val_indexR Try.underlying123 sz2 rfl hAw rfl rfl hxi haddw) rfl ?_
    refine Fw.ldQ sc2 rfl (((HB.cell (World.block_lt_of_cell? _ _ HWc)).trans HWc)) rfl ?_
    refine Fw.q2 (Fw.val_bin rfl rfl Fw.b_neq) rfl ?_ ?_
    rintro hq5
    refine Fw.q (Fw.val_move rfl) rfl ?_
    have hwd2 := hwd.resolve_left hq5
    refine Fw.gTQ (d := 93) rfl rfl ?_
    refine Fw.ldQ sc2 rfl (Hdd.cell 0) rfl ?_
    refine Fw.gTQ (d := 93) rfl rfl ?_
    refine Fw.ldQ sc123 rfl (Hw.cell 0) rfl ?_
    refine Fw.gTQ (d := 93) rfl rfl ?_
    refine Fw.q (Fw.val_move rfl) rfl ?_
    refine Fw.gTQ (d := 93) rfl rfl ?_
    refine Fw.q (Fw.val_indexR Try.underlying123 sz2 rfl hAw rfl rfl hxi haddw) rfl ?_
    refine Fw.gTQ (d := 93) rfl rfl ?_
    refine Fw.ldQ sc2 rfl (((HB.cell (World.block_lt_of_cell? _ _ HWc)).trans HWc)) rfl ?_
    refine Fw.gTQ (d := 93) rfl rfl ?_
    refine Fw.q (Fw.val_bin rfl rfl (Fw.b_add (Fw.i64_ok (by omega)))) rfl ?_
    refine Fw.gTQ (d := 93) rfl rfl ?_
    refine Fw.ldQ sc123 rfl (Hx.cell 0) rfl ?_
    refine Fw.gTQ (d := 93) rfl rfl ?_
    refine Fw.q (Fw.val_move rfl) rfl ?_
    refine Fw.gTQ (d := 93) rfl rfl ?_
    have HC_ := Rg.own_cell HL _ hsd
    refine Fw.q (Fw.val_indexR Try.underlying123 sz2 rfl rfl rfl rfl (by omega) (by rw [Fw.add_flat, Nat.zero_add, Nat.mul_one])) rfl ?_
    refine Fw.gTQ (d := 93) rfl rfl ?_
    refine Fw.ldQ sc2 rfl (HC_) rfl ?_
    refine Fw.gTQ (d := 93) rfl rfl ?_
    refine Fw.q2 (Fw.val_bin rfl rfl Fw.b_lss) rfl ?_ ?_
    rintro hq6
    refine Fw.q (Fw.val_pickT rfl rfl) rfl ?_
    refine Fw.nilQ ?_
    intro w24 hb
    clear HC_
    replace Hn := Hn.low hb
    replace Hw := Hw.low hb
    replace Hf := Hf.low hb
    replace HL := own_below HL hb (Nat.le_refl _)
    replace Hx := Hx.low hb
    replace HQ := HQ.low hb
    replace Hdd := Hdd.low hb
    replace HRS := HRS.trans (hb.mono (Nat.le_trans hBr HRS.size))
    replace HKO := HKO.trans (Fw.kf_low hb)
    replace He := He.low hb
    replace HB := HB.trans (hb.mono HB.size)
    clear hb
    refine hK49 _ _ (Fw.R.RC.sub (f' := [(105, _), (20, _), (17, _), (15, _), (11, _), (9, _), (5, _)]) (.cons rfl (.cons rfl (.cons rfl (.cons rfl (.cons rfl (.cons rfl (.cons rfl .nil))))))) ?_)
    refine Fw.R.condT rfl ?_
    refine Fw.R.seq fun _ hK55 => ?_
    have hbd : 0 ≤ δ + ws[x.val] ∧ δ + ws[x.val] ≤ (N : Int) * W := by have := hI2.step_bd hA hWI hW0 (i := x.val) (δ := δ) ⟨hxi, by rw [hwt2]; exact hq5⟩ (by rw [hs2]; exact hdv2) (by show δ ≠ 4611686018427387904; omega) (by rw [hwt2, ht2, Sp.ix_get hsd]; exact hq6); rw [hwt2] at this; exact this
    refine Fw.R.regionHS (Chg (· = gL) w24) (by kernel_rfl) (Chg.of_below (Fw.drew_low w24) _) ?_ hLO
    have R_Hn := Hn
    have R_Hw := Hw
    have R_Hf := Hf
    have R_Hx := Hx
    have R_Hdd := Hdd
    have R_He := He
    have R_HB := HB
    intro w25 hb HS
    replace Hn := Hn.low hb
    replace Hw := Hw.low hb
    replace Hf := Hf.low hb
    replace HL := own_below HL hb (Nat.le_refl _)
    replace Hx := Hx.low hb
    replace HQ := HQ.low hb
    replace Hdd := Hdd.low hb
    replace HRS := HRS.trans (hb.mono (Nat.le_trans hBr HRS.size))
    replace HKO := HKO.trans (Fw.kf_low hb)
    replace He := He.low hb
    replace HB := HB.trans (hb.mono HB.size)
    clear hb
    refine Fw.hTk 0 rfl rfl (Fw.yV (Fw.hLdC sc123 rfl (R_Hx.cell 0) (by show ¬ gx = gL; omega))) rfl ?_
    refine Fw.hTk 1 rfl rfl (Fw.yV (Fw.val_move rfl)) rfl ?_
    refine Fw.hTk 2 rfl rfl (Fw.yV (Fw.hLdC sc2 rfl (R_Hdd.cell 0) (by show ¬ gdd = gL; omega))) rfl ?_
    refine Fw.hTk 3 rfl rfl (Fw.yV (Fw.hLdC sc123 rfl (R_Hw.cell 0) (by show ¬ gw = gL; omega))) rfl ?_
    refine Fw.hTk 4 rfl rfl (Fw.yV (Fw.val_move rfl)) rfl ?_
    refine Fw.hTk 5 rfl rfl (Fw.yV (Fw.val_indexR Try.underlying123 sz2 rfl hAw rfl rfl hxi haddw)) rfl ?_
    refine Fw.hAll1 6 (by kernel_rfl) ?_
    refine Fw.hOp 6 rfl ?_
    refine Fw.ld sc2 rfl (((HB.cell (World.block_lt_of_cell? _ _ HWc)).trans HWc)) rfl ?_
    refine Fw.hNext HS ?_
    refine Fw.hTk 7 rfl rfl (Fw.yV (Fw.val_bin rfl rfl (Fw.b_add (Fw.i64_ok (by omega))))) rfl ?_
    have EW57 := True.intro
    refine Fw.hTk 8 rfl rfl (Fw.yV (Fw.val_indexR Try.underlying123 sz2 rfl rfl rfl rfl (by omega) (by rw [Fw.add_flat, Nat.zero_add, Nat.mul_one]))) rfl ?_
    refine Fw.hAll1 9 (by kernel_rfl) ?_
    refine Fw.hOp 9 rfl ?_
    refine Fw.storeR sz2 rfl rfl HL (by simpa using hsd) rfl rfl ?_
    intro w26 N_ hc
    replace Hn := Hn.chg hc (by omega)
    replace Hw := Hw.chg hc (by omega)
    replace Hf := Hf.chg hc (by omega)
    replace Hx := Hx.chg hc (by omega)
    replace HQ := HQ.chg hc (by have := HQ.lt; omega) (by have := HQ.lt; omega)
    replace Hdd := Hdd.chg hc (by omega)
    replace HRS := HRS.trans (hc.below (fun k e => by omega) (Nat.le_trans hBr HRS.size))
    replace HKO := HKO.trans (Fw.kf_row hc HL)
    replace He := He.chg hc (by omega)
    replace HS := HS.trans hc (fun _ _ h => h)
    replace HB := HB.trans (hc.below (B := w.heap.size) (fun k e => by omega) HB.size)
    clear hc
    clear HL EW57
    have HL := N_
    clear N_
    replace HL : World.ownsRow w26 w.heap.size 2 1 (.slice (some ⟨gL, 0, none⟩) N N) N ((d'.set E[x.val].f (δ + ws[x.val])).map (.int .i64)) := by simpa using HL
    refine Fw.hNext HS ?_
    refine Fw.hDone (by kernel_rfl) ?_
    refine hK55 _ _ (Fw.R.RC.sub (f' := [(20, _), (11, _), (9, _)]) (.cons rfl (.cons rfl (.cons rfl .nil))) ?_)
    refine Fw.R.region ?_ hLO
    refine Fw.ld sc123 rfl (Hx.cell 0) rfl ?_
    refine Fw.s (Fw.val_move rfl) rfl ?_
    have HC_ := Rg.own_cell HL _ (by simpa using hsd)
    refine Fw.s (Fw.val_indexR Try.underlying123 sz2 rfl rfl rfl rfl (by omega) (by rw [Fw.add_flat, Nat.zero_add, Nat.mul_one])) rfl ?_
    refine Fw.ld sc2 rfl (HC_) rfl ?_
    rw [List.getElem_set_self]
    refine Fw.s (Fw.val_move rfl) rfl ?_
    refine Fw.call cf69 rfl rfl (push_any _ gq rb' q' HQ (by have : (q'.length : Int) ≤ (N : Int) * (N * W + 1) := hI2.qlen hW0; omega) (δ + ws[x.val]) E[x.val].f (by exact hbd.1) (by have := hbd.2; omega) (by omega) (by omega)) ?_
    rintro e_ w27 ⟨q2, rb2, rfl, ⟨hm2, hlq2⟩, HQn, hrn, hc, hkf⟩
    refine ⟨_, rfl, ?_⟩
    have hqlt := HQ.lt
    have hbs_ : w.heap.size ≤ w26.heap.size := HB.size
    have hddlt := Hdd.lt
    replace Hn := Hn.chg hc (by show ¬ (gn = gq ∨ gn = rb'); omega)
    replace Hw := Hw.chg hc (by show ¬ (gw = gq ∨ gw = rb'); omega)
    replace Hf := Hf.chg hc (by show ¬ (gf = gq ∨ gf = rb'); omega)
    replace HL := own_to HL hc (fun g_ h_ e_ => by injection h_ with h_; have h_ : gL = g_ := h_; have e_ : g_ = gq ∨ g_ = rb' := e_; omega)
    replace Hx := Hx.chg hc (by show ¬ (gx = gq ∨ gx = rb'); omega)
    replace Hdd := Hdd.chg hc (by show ¬ (gdd = gq ∨ gdd = rb'); omega)
    replace HRS := HRS.trans (hc.below (fun k e => by have e : k = gq ∨ k = rb' := e; omega) (Nat.le_trans hBr HRS.size))
    replace HKO := HKO.trans hkf
    replace He := He.chg hc (by show ¬ (ge = gq ∨ ge = rb'); omega)
    clear HC_
    replace HB := HB.trans (hc.below (B := w.heap.size) (fun k e => by have e : k = gq ∨ k = rb' := e; omega) HB.size)
    have hddr : rb2 ≠ gdd := by omega
    clear hddlt
    have hlr : w.heap.size ≤ rb2 := by omega
    clear hc hqlt HQ hkf hbs_
    have HQ := HQn
    clear HQn
    have hst := Sp.Run.step hA hWI hW0 hI2 (i := x.val) (δ := δ) ⟨hxi, by rw [hwt2]; exact hq5⟩ (by rw [hs2]; exact hdv2) (by show δ ≠ 4611686018427387904; omega) (by rw [hwt2, ht2, Sp.ix_get hsd]; exact hq6) (by rw [hwt2, ht2]; exact hm2) hlq2
    rw [hwt2, ht2, hs2] at hst
    refine Fw.nil ?_
    refine Fw.X_blockN ?_
    exact fun _ _ => ⟨HKO, HRS, ⟨d'.set E[x.val].f (δ + ws[x.val]), q2, rb2, Rg.run_app hst.1, hst.2.2, Nat.le_trans hst.2.1 hmu, hlr, hddr, Hn, Hw, Hf, HL, Hx, HQ, Hdd, HB⟩⟩
    rintro hq6
    refine Fw.q (Fw.val_pickT rfl rfl) rfl ?_
    refine Fw.nilQ ?_
    intro w28 hb
    clear HC_
    replace Hn := Hn.low hb
    replace Hw := Hw.low hb
    replace Hf := Hf.low hb
    replace HL := own_below HL hb (Nat.le_refl _)
    replace Hx := Hx.low hb
    replace HQ := HQ.low hb
    replace Hdd := Hdd.low hb
    replace HRS := HRS.trans (hb.mono (Nat.le_trans hBr HRS.size))
    replace HKO := HKO.trans (Fw.kf_low hb)
    replace He := He.low hb
    replace HB := HB.trans (hb.mono HB.size)
    clear hb
    refine hK49 _ _ (Fw.R.RC.sub (f' := [(105, _), (20, _), (17, _), (15, _), (11, _), (9, _), (5, _)]) (.cons rfl (.cons rfl (.cons rfl (.cons rfl (.cons rfl (.cons rfl (.cons rfl .nil))))))) ?_)
    refine Fw.R.condF rfl ?_
    refine Fw.R.skip ?_
    refine Fw.X_blockN ?_
    exact fun _ _ => ⟨HKO, HRS, ⟨d', q', rb', Rg.run_app (hI2.pass (i := x.val) (δ := δ) (by rw [hs2]; exact hdv2) (fun h => hq6 (by have h2 := h.2; rw [hwt2, ht2, Sp.ix_get hsd] at h2; exact h2))), hdv2, hmu, hlr, hddr, Hn, Hw, Hf, HL, Hx, HQ, Hdd, HB⟩⟩
    rintro hq5
    refine Fw.q (Fw.val_move rfl) rfl ?_
    refine Fw.gFQ (d := 93) rfl rfl rfl rfl ?_
    refine Fw.gFQ (d := 93) rfl rfl rfl rfl ?_
    refine Fw.gFQ (d := 93) rfl rfl rfl rfl ?_
    refine Fw.gFQ (d := 93) rfl rfl rfl rfl ?_
    refine Fw.gFQ (d := 93) rfl rfl rfl rfl ?_
    refine Fw.gFQ (d := 93) rfl rfl rfl rfl ?_
    refine Fw.gFQ (d := 93) rfl rfl rfl rfl ?_
    refine Fw.gFQ (d := 93) rfl rfl rfl rfl ?_
    refine Fw.gFQ (d := 93) rfl rfl rfl rfl ?_
    refine Fw.gFQ (d := 93) rfl rfl rfl rfl ?_
    refine Fw.gFQ (d := 93) rfl rfl rfl rfl ?_
    refine Fw.q (Fw.val_pickF rfl rfl) rfl ?_
    refine Fw.nilQ ?_
    intro w29 hb
    replace Hn := Hn.low hb
    replace Hw := Hw.low hb
    replace Hf := Hf.low hb
    replace HL := own_below HL hb (Nat.le_refl _)
    replace Hx := Hx.low hb
    replace HQ := HQ.low hb
    replace Hdd := Hdd.low hb
    replace HRS := HRS.trans (hb.mono (Nat.le_trans hBr HRS.size))
    replace HKO := HKO.trans (Fw.kf_low hb)
    replace He := He.low hb
    replace HB := HB.trans (hb.mono HB.size)
    clear hb
    refine hK49 _ _ (Fw.R.RC.sub (f' := [(105, _), (20, _), (17, _), (15, _), (11, _), (9, _), (5, _)]) (.cons rfl (.cons rfl (.cons rfl (.cons rfl (.cons rfl (.cons rfl (.cons rfl .nil))))))) ?_)
    refine Fw.R.condF rfl ?_
    refine Fw.R.skip ?_
    refine Fw.X_blockN ?_
    exact fun _ _ => ⟨HKO, HRS, ⟨d', q', rb', Rg.run_app (hI2.pass (i := x.val) (δ := δ) (by rw [hs2]; exact hdv2) (fun h => hq5 (fun e => h.1 (hwt2.trans e)))), hdv2, hmu, hlr, hddr, Hn, Hw, Hf, HL, Hx, HQ, Hdd, HB⟩⟩
  case done =>
    clear Hn Hw Hf HL Hx HQ Hdd HB
    rintro D_ ys_ w30 hD_ hS_ ⟨d', q', rb', hI2, hdv2, hmu, hlr, hddr, Hn, Hw, Hf, HL, Hx, HQ, Hdd, HB⟩ hkf_ hK_
    have hsz_ := Fw.kf_size hkf_
    obtain rfl : ys_ = (Rg.adj Rg.Ed.t E v).attach := hS_
    replace hI2 := hI2.rest (ex' := fun _ => False) (fun i hi h => h.2 ⟨i, Rg.mem_adj.2 ⟨hi.1, by have := h.1; rw [Rg.arc_s hi.1] at this; exact this⟩⟩ (List.mem_attach _ _) rfl)
    replace HM := Fw.Marks.push HM hBr_ hkf_ hD_ hK_
    refine Fw.X_blockN ?_
    refine Fw.X_blockN ?_
    refine Fw.roundEndM _ _ (by have : Sp.mu (Rg.arcs N E ws false) W d q1 < Sp.mu (Rg.arcs N E ws false) W d q := Sp.mu_pop hlq1; omega) ⟨d', q', rb', rfl, hI2, hlr, Hn, Hw, Hf, HL, Hx, HQ, HB, rfl, HM⟩ (.cons rfl (.cons rfl (.cons rfl (.cons rfl (.cons rfl (.cons rfl .nil))))))
  case stop =>
    exact fun _ _ _ _ _ _ h _ _ => h.elim
  rintro hl3
  refine Fw.nil ?_
  refine hK37 _ _ ?_
  refine Fw.condF rfl ?_
  refine Fw.exit ?_
  refine Fw.X_exit ?_
  refine Fw.X_exit ?_
  refine Fw.X_block ?_
  refine hK34 _ _ (Fw.FC.sub (f' := [(9, _)]) (.cons rfl .nil) ?_)
  refine Fw.seq fun _ hK60 => ?_
  refine Fw.region ?_
  refine Fw.ld sc123 rfl (Hx.cell 0) rfl ?_
  refine Fw.s (Fw.val_assign rfl) rfl ?_
  refine Fw.nil ?_
  refine hK60 _ _ ?_
  refine Fw.ret ?_
  refine Fw.retM [.tmp 8] [_] Try.results65 HM HB.size (fun wE hk_ hb_ => ⟨(.tmp rfl .nil), ?_⟩)
  exact ⟨_, _, d, rfl, Fw.own_kp HL hk_ rfl, hI.inv.len, hI.done hA hWI hW0 (by omega), HB.trans hb_⟩

end Go.Proofs.Ytodhpooddmeghaa
