/- Layer 9: the reference's shortest path. -/
import Derived.Test.YtmacmlgjejdhpaaRgH
import Derived.Test.YtmacmlgjejdhpaaSpD
namespace Go.Proofs.Ytmacmlgjejdhpaa
set_option linter.unusedSimpArgs false
set_option linter.unusedVariables false
open Go.RowKit

namespace Sp
theorem Bd.upTo {A : Arcs} {W : Int} (hA : A.Ok W) {d : List Int} (h : Bd A.N d) : ∀ j, j ≤ A.M → Bd A.N (upTo A d j)
  | 0, _ => h
  | j + 1, hj => by rw [upTo_succ]; exact (Bd.upTo hA h j (by omega)).rlx hA (by omega)
theorem Bd.rounds {A : Arcs} {W : Int} (hA : A.Ok W) {d : List Int} (h : Bd A.N d) : ∀ k, Bd A.N (rounds A d k)
  | 0 => h
  | k + 1 => (Bd.rounds hA h k).upTo hA A.M (Nat.le_refl _)
/-- looking from the last arc down: the least that leads on, of those from m on, or -1 -/
def NX (A : Arcs) (D : Nat → Int) (v m : Nat) (nx : Int) : Prop := (nx = -1 ∧ ∀ j, m ≤ j → ¬ Next A D v j) ∨ (∃ u : Nat, nx = u ∧ Next A D v u ∧ ∀ j, m ≤ j → j < u → ¬ Next A D v j)
theorem NX.start (A : Arcs) (D : Nat → Int) (v : Nat) : NX A D v A.M (-1) := .inl ⟨rfl, fun j hj h => by have := h.1.1; omega⟩
theorem NX.no {A : Arcs} {D : Nat → Int} {v j : Nat} {nx : Int} (h : NX A D v (j + 1) nx) (hn : ¬ Next A D v j) : NX A D v j nx := by
  rcases h with ⟨h1, h2⟩ | ⟨u, h1, h2, h3⟩
  refine .inl ⟨h1, fun i hi => ?_⟩
  by_cases e : i = j
  subst e; exact hn
  exact h2 i (by omega)
  refine .inr ⟨u, h1, h2, fun i hi hu => ?_⟩
  by_cases e : i = j
  subst e; exact hn
  exact h3 i (by omega) hu
theorem NX.yes {A : Arcs} {D : Nat → Int} {v j : Nat} (h : Next A D v j) : NX A D v j j := .inr ⟨j, rfl, h, fun i hi hu => by omega⟩
theorem NX.done {A : Arcs} {D : Nat → Int} {v : Nat} {nx : Int} (h : NX A D v 0 nx) (he : ∃ i, Next A D v i) : ∃ u : Nat, nx = u ∧ Least A D v u := by
  rcases h with ⟨_, h2⟩ | ⟨u, h1, h2, h3⟩
  obtain ⟨i, hi⟩ := he; exact absurd hi (h2 i (Nat.zero_le _))
  exact ⟨u, h1, h2, fun j hj => h3 j (Nat.zero_le _) hj⟩
end Sp
namespace Rg
theorem wt_ltF {N : Nat} {E : List Ed} {ts : List Int} {j : Nat} (h : j < E.length) : (arcT N E ts false).wt j = tt ts j := tts_ix ts h
theorem rep_inf {w : World} {base e n c g N : Nat} (h : w.ownsRow base e 1 (.slice (some ⟨g, 0, none⟩) n c) n ((List.replicate N (0 : Int)).flatMap fun x => [Value.int .i64 x])) : w.ownsRow base e 1 (.slice (some ⟨g, 0, none⟩) n c) n ((List.replicate 0 Sp.INF ++ List.replicate (N - 0) 0).map (.int .i64)) := by
  simpa [List.flatMap_replicate] using h
theorem rlxT {N : Nat} {E : List Ed} {ts dl d : List Int} {j : Nat} (hj : j < E.length) (hf : E[j].f < d.length) (ht : E[j].t < d.length) (hbd : Sp.ix d E[j].f ≤ 4611686018427387904) :
    Sp.rlx (Sp.tightA (arcT N E ts false) (Sp.ix dl)) d j = if tt ts j < 4611686018427387904 ∧ Sp.ix dl E[j].t < 4611686018427387904 ∧ Sp.ix dl E[j].f = tt ts j + Sp.ix dl E[j].t ∧ d[E[j].t] + 1 < d[E[j].f] then d.set E[j].f (d[E[j].t] + 1) else d := by
  have e1' : (arcT N E ts false).s j = E[j].t := arc_s hj
  have e2' : (arcT N E ts false).t j = E[j].f := arc_t hj
  have e1 : (Sp.tightA (arcT N E ts false) (Sp.ix dl)).s j = E[j].t := e1'
  have e2 : (Sp.tightA (arcT N E ts false) (Sp.ix dl)).t j = E[j].f := e2'
  have e3 : (Sp.tightA (arcT N E ts false) (Sp.ix dl)).wt j = if tt ts j < Sp.INF ∧ Sp.ix dl E[j].t < Sp.INF ∧ Sp.ix dl E[j].f = tt ts j + Sp.ix dl E[j].t then 1 else Sp.INF := by
    show (if (arcT N E ts false).wt j < _ ∧ Sp.ix dl ((arcT N E ts false).s j) < _ ∧ Sp.ix dl ((arcT N E ts false).t j) = _ + Sp.ix dl ((arcT N E ts false).s j) then (1 : Int) else Sp.INF) = _
    rw [wt_ltF hj, e1', e2']
  unfold Sp.rlx
  rw [e1, e2, e3, Sp.ix_get hf, Sp.ix_get ht]
  rw [Sp.ix_get hf] at hbd
  have I : (Sp.INF : Int) = 4611686018427387904 := rfl
  by_cases c : tt ts j < Sp.INF ∧ Sp.ix dl E[j].t < Sp.INF ∧ Sp.ix dl E[j].f = tt ts j + Sp.ix dl E[j].t
  rw [if_pos c]
  by_cases c2 : d[E[j].t] + 1 < d[E[j].f]
  rw [if_pos ⟨by decide, by omega, c2⟩, if_pos ⟨c.1, c.2.1, c.2.2, c2⟩]
  rw [if_neg (fun h => c2 h.2.2), if_neg (fun h => c2 h.2.2.2)]
  rw [if_neg c, if_neg (fun h => absurd h.1 (by decide)), if_neg (fun h => c ⟨h.1, h.2.1, h.2.2.1⟩)]
theorem next_iff {N : Nat} {E : List Ed} {ts dl fl : List Int} {D : Nat → Int} {b v j : Nat} (hEO : EOk N E) (hN : N ≤ 12) (hb : b < N) (hD : Sp.IsDist (Sp.star (arcT N E ts false)) 8589934593 (· = b) D) (hdl : ∀ v, v < N → Sp.ix dl v = Sp.dOf D v) (hfl : ∀ v, v < N → Sp.ix fl v = Sp.fOf D v)
    (hv : v < N) (hvf : D v ≠ Sp.INF) (hj : j < E.length) : Sp.Next (arcT N E ts false) D v j ↔ (E[j].f : Int) = v ∧ tt ts j < 4611686018427387904 ∧ Sp.ix dl E[j].t < 4611686018427387904 ∧ Sp.ix dl v = tt ts j + Sp.ix dl E[j].t ∧ Sp.ix fl v = Sp.ix fl E[j].t + 1 := by
  have hA : (arcT N E ts false).Ok 1048576 := arcT_ok ts false hEO
  have hje := hEO _ (List.getElem_mem hj)
  have e1 : (arcT N E ts false).s j = E[j].t := arc_s hj
  have e2 : (arcT N E ts false).t j = E[j].f := arc_t hj
  have I : (Sp.INF : Int) = 4611686018427387904 := rfl
  have h8 : (1048576 : Int) * 8192 + 1 < Sp.INF := by decide
  have hN' : (arcT N E ts false).N ≤ 4096 := by show N ≤ 4096; omega
  have hwt := tt_bd ts j
  rw [hdl _ hje.2, hdl _ hv, hfl _ hje.2, hfl _ hv]
  have hfin := Sp.fin_of hD hA h8 hN' hb (v := E[j].t) hje.2
  rw [I] at hfin
  unfold Sp.Next
  rw [e1, e2, wt_ltF hj]
  constructor
  rintro ⟨ho, h1, h2, h3⟩
  have ho2 : tt ts j ≠ Sp.INF := by have := ho.2; rwa [wt_ltF hj] at this
  have := (Sp.tight_iff hA h8 hN' hb hD (i := j) ho (by rw [e1]; exact h2) (by rw [e2, h1]; exact hvf)).1 (by rw [e1, e2, h1, wt_ltF hj]; exact h3)
  rw [e1, e2, h1, wt_ltF hj] at this
  exact ⟨by omega, by omega, hfin.2 h2, this.1, this.2⟩
  rintro ⟨h1, h2, h3, h4, h5⟩
  have h1' : E[j].f = v := by omega
  have ho : (arcT N E ts false).Op j := ⟨hj, by rw [wt_ltF hj]; omega⟩
  have h3' := hfin.1 h3
  have := (Sp.tight_iff hA h8 hN' hb hD (i := j) ho (by rw [e1]; exact h3') (by rw [e2, h1']; exact hvf)).2 (by rw [e1, e2, h1', wt_ltF hj]; exact ⟨h4, h5⟩)
  rw [e1, e2, h1', wt_ltF hj] at this
  exact ⟨ho, h1', h3', this⟩
theorem refD {N : Nat} {E : List Ed} {ts : List Int} {D : Nat → Int} {b : Nat} (hEO : EOk N E) (hN : N ≤ 12) (hb : b < N) (hD : Sp.IsDist (Sp.star (arcT N E ts false)) 8589934593 (· = b) D) :
    (∀ v, v < N → Sp.ix (Sp.rounds (Rg.arcT N E ts false) (Sp.init N [(b : Int)]) N) v = Sp.dOf D v) ∧ (∀ v, v < N → Sp.ix (Sp.rounds (Sp.tightA (Rg.arcT N E ts false) (Sp.ix (Sp.rounds (Rg.arcT N E ts false) (Sp.init N [(b : Int)]) N))) (Sp.init N [(b : Int)]) N) v = Sp.fOf D v) := by
  have hA : (arcT N E ts false).Ok 1048576 := arcT_ok ts false hEO
  have h8 : (1048576 : Int) * 8192 + 1 < Sp.INF := by decide
  have hN' : (arcT N E ts false).N ≤ 4096 := by show N ≤ 4096; omega
  have hNW : ((arcT N E ts false).N : Int) * (1048576 * 8192 + 1) + (1048576 * 8192 + 1) < Sp.INF := by show (N : Int) * (1048576 * 8192 + 1) + (1048576 * 8192 + 1) < 4611686018427387904; omega
  have he : ∀ v, v < (arcT N E ts false).N → (v = b ↔ (v : Int) ∈ [(b : Int)]) := fun v _ => by rw [List.mem_singleton]; omega
  have h1 := fun v (hv : v < N) => Sp.rounds_eq hA (Sp.star_dist hA h8 hN' hNW hb hD) [(b : Int)] he v hv
  refine ⟨h1, fun v hv => ?_⟩
  exact Sp.rounds_eq (Sp.tightA_ok hA _) (Sp.tightA_congr _ hA (fun v hv => (h1 v hv).symm) (Sp.few_dist hA h8 hN' hNW hb hD)) [(b : Int)] he v hv
end Rg
set_option maxRecDepth 100000 in
set_option maxHeartbeats 1000000 in
theorem few_any (w : World) (N : Nat) (E : List Rg.Ed) (Ae : Option Addr) (ce : Nat) (hE : Rd w Ae (E.flatMap Rg.Ed.cells)) (hEO : Rg.EOk N E) (hEl : E.length ≤ 65536) (hN : N ≤ 12) (A : Option Addr) (ts : List Int) (c : Nat) (h : Rd w A (ts.map (.int .i64))) (b : Nat) (hb : b < N) : Calls Try.prog 73 #[.agg #[.int .i64 (N : Int), .slice Ae E.length ce], .slice A ts.length c, .int .i64 (b : Int)] w fun e_ w' => ∃ A' c', e_ = .returned (.slice A' N c') ∧ w'.ownsRow w.heap.size 2 1 (.slice A' N c') N ((Sp.rounds (Sp.tightA (Rg.arcT N E ts false) (Sp.ix (Sp.rounds (Rg.arcT N E ts false) (Sp.init N [(b : Int)]) N))) (Sp.init N [(b : Int)]) N).map (.int .i64)) ∧ Below w.heap.size w w' := by
  have hA : Sp.Arcs.Ok (Rg.arcT N E ts false) 1048576 := Rg.arcT_ok ts false hEO
  have hTA : Sp.Arcs.Ok (Sp.tightA (Rg.arcT N E ts false) (Sp.ix (Sp.rounds (Rg.arcT N E ts false) (Sp.init N [(b : Int)]) N))) 1 := Sp.tightA_ok hA _
  have hdbd : Sp.Bd N (Sp.rounds (Rg.arcT N E ts false) (Sp.init N [(b : Int)]) N) := Sp.Bd.rounds hA (Sp.Bd.init N [(b : Int)]) N
  have hdlen : (Sp.rounds (Rg.arcT N E ts false) (Sp.init N [(b : Int)]) N).length = N := hdbd.1
  refine Fw.calls Try.func73 rfl Try.ntmps73 rfl ?_
  have HB := Below.refl (w.heap.size) w
  refine Fw.seq fun _ hK1 => ?_
  refine Fw.region ?_
  refine Fw.box rfl rfl ?_
  intro w1 gn egn Hn hb
  have lgn : w.heap.size ≤ gn := by have := HB.size; omega
  replace HB := HB.trans (hb.mono HB.size)
  clear hb
  clear egn
  refine Fw.s (Fw.val_assign rfl) rfl ?_
  refine Fw.nil ?_
  refine hK1 _ _ ?_
  refine Fw.seq fun _ hK2 => ?_
  refine Fw.region ?_
  refine Fw.ldA ag24 rfl (Fw.rdBlk Hn) rfl rfl ?_
  refine Fw.s (Fw.val_move rfl) rfl ?_
  refine Fw.s (Fw.val_move rfl) rfl ?_
  refine Fw.buildSlice [_] sl46 rfl rfl (by exact Fw.allSz rfl) (by decide) rfl ?_
  intro w2 gS17 egS17 HS17 hb
  have n_gn_gS17 : gn < gS17 := by have := Hn.lt; omega
  have lgS17 : w.heap.size ≤ gS17 := by have := HB.size; omega
  replace Hn := Hn.low hb
  replace HB := HB.trans (hb.mono HB.size)
  clear hb
  clear egS17
  refine Fw.call cf72 rfl rfl (refTo_any _ N E Ae ce (hE.low HB) hEO hEl hN A ts c (h.low HB) (some ⟨gS17, 0, none⟩) [(b : Int)] 1 (by simp) (show Rd _ _ [.int .i64 (b : Int)] from Fw.rdBlk HS17)) ?_
  rintro e_ w3 ⟨AD, cD, rfl, HD, hb⟩
  refine ⟨_, rfl, ?_⟩
  have hzB := HB.size
  replace Hn := Hn.low hb
  replace HS17 := HS17.low hb
  replace HB := HB.trans (hb.mono HB.size)
  clear hb
  have hzD := HB.size
  obtain ⟨gD, rfl, hgD, _⟩ := Fw.own_form0 HD (by omega)
  clear HS17
  replace HD := own_base (B := w.heap.size) HD hzB
  refine Fw.s (Fw.val_assign rfl) rfl ?_
  refine Fw.nil ?_
  refine hK2 _ _ (Fw.FC.sub (f' := [(7, _), (3, _), (1, _), (2, _)]) (.cons rfl (.cons rfl (.cons rfl (.cons rfl .nil)))) ?_)
  refine Fw.seq fun _ hK3 => ?_
  refine Fw.region ?_
  refine Fw.s (Fw.val_fieldAddr fl24_0 rfl rfl) rfl ?_
  refine Fw.ld sc3 rfl (Hn.cell 0) rfl ?_
  refine Fw.makeG N sl100 zi2 rfl rfl rfl rfl (by omega) (by unfold maxLen; omega) HB.size rfl ?_
  intro w4 gL egL HL hb
  have n_gD_gL : gD < gL := by have := (HD.lt gD rfl).2; omega
  have n_gn_gL : gn < gL := by have := Hn.lt; omega
  rw [Fw.made (cells := fun (x : Int) => [Value.int .i64 x]) (m := 1) (0 : Int) (Value.cells (.int .i64 0)) rfl rfl] at HL
  have lgL : w.heap.size ≤ gL := by have := HB.size; omega
  replace Hn := Hn.low hb
  replace HD := own_below HD hb (Nat.le_refl _)
  replace HB := HB.trans (hb.mono HB.size)
  clear hb
  clear egL
  replace HL := Rg.rep_inf HL
  refine Fw.s (Fw.val_assign rfl) rfl ?_
  refine Fw.nil ?_
  refine hK3 _ _ ?_
  refine Fw.seq fun _ hK4 => ?_
  refine Fw.seq fun _ hK5 => ?_
  refine Fw.region ?_
  refine Fw.s (Fw.val_assign rfl) rfl ?_
  refine Fw.nil ?_
  refine hK5 _ _ ?_
  refine Fw.block ?_
  refine Fw.loop (fun m_ f_ W_ => ∃ (k : Nat), m_ = N - k ∧ k ≤ N ∧ Blk W_ gn 24 #[.int .i64 (N : Int), .slice Ae E.length ce] ∧ World.ownsRow W_ w.heap.size 2 1 (.slice (some ⟨gD, 0, none⟩) N cD) N ((Sp.rounds (Rg.arcT N E ts false) (Sp.init N [(b : Int)]) N).map (.int .i64)) ∧ World.ownsRow W_ w.heap.size 2 1 (.slice (some ⟨gL, 0, none⟩) N N) N ((List.replicate k Sp.INF ++ List.replicate (N - k) 0).map (.int .i64)) ∧ Below (w.heap.size) w W_ ∧ f_ = [(9, .int .i64 k), (8, .slice (some ⟨gL, 0, none⟩) N N), (7, .slice (some ⟨gD, 0, none⟩) N cD), (3, .pointer (some ⟨gn, 0, none⟩)), (1, .slice A ts.length c), (2, .int .i64 (b : Int))]) ⟨_, _, ⟨0, rfl, Nat.zero_le _, Hn, HD, HL, HB, rfl⟩, (.cons rfl (.cons rfl (.cons rfl (.cons rfl (.cons rfl (.cons rfl .nil))))))⟩ ?_
  clear Hn HD HL HB
  rintro m6_ _ w5 ⟨k, hm6_, hkn, Hn, HD, HL, HB, rfl⟩
  refine Fw.seq fun _ hK7 => ?_
  refine Fw.seq fun _ hK8 => ?_
  refine Fw.region ?_
  refine Fw.s (Fw.val_move rfl) rfl ?_
  refine Fw.s (Fw.val_fieldAddr fl24_0 rfl rfl) rfl ?_
  refine Fw.ld sc3 rfl (Hn.cell 0) rfl ?_
  refine Fw.s2 (Fw.val_bin rfl rfl Fw.b_lss) rfl ?_ ?_
  rintro hk1
  refine Fw.nil ?_
  refine hK8 _ _ ?_
  refine Fw.condT rfl ?_
  refine Fw.skip ?_
  refine hK7 _ _ ?_
  refine Fw.seq fun _ hK10 => ?_
  refine Fw.block ?_
  have hkN : k < N := by omega
  refine Fw.region ?_
  refine Fw.s (Fw.val_move rfl) rfl ?_
  refine Fw.s (Fw.val_move rfl) rfl ?_
  refine Fw.call cf42 rfl rfl (never_any _) ?_
  rintro e_ _ ⟨rfl, rfl⟩
  refine ⟨_, rfl, ?_⟩
  have EW11 := True.intro
  refine Fw.s (Fw.val_indexR Try.underlying100 sz2 rfl rfl rfl rfl hkN (by rw [Fw.add_flat, Nat.zero_add, Nat.mul_one])) rfl ?_
  refine Fw.storeR sz2 rfl rfl HL (by simp; omega) rfl rfl ?_
  intro w6 N_ hc
  replace Hn := Hn.chg hc (by omega)
  replace HD := own_to HD hc (fun g_ h_ e_ => by injection h_ with h_; have h_ : gD = g_ := h_; have e_ : g_ = gL := e_; omega)
  replace HB := HB.trans (hc.below (B := w.heap.size) (fun k e => by omega) HB.size)
  clear hc
  clear HL EW11
  have HL := N_
  clear N_
  replace HL : World.ownsRow w6 w.heap.size 2 1 (.slice (some ⟨gL, 0, none⟩) N N) N ((List.replicate (k + 1) Sp.INF ++ List.replicate (N - (k + 1)) 0).map (.int .i64)) := by rw [← Rg.inf_step hkN]; simpa using HL
  refine Fw.nil ?_
  refine Fw.X_blockN ?_
  refine hK10 _ _ (Fw.FC.sub (f' := [(9, _), (8, _), (7, _), (3, _), (1, _), (2, _)]) (.cons rfl (.cons rfl (.cons rfl (.cons rfl (.cons rfl (.cons rfl .nil)))))) ?_)
  refine Fw.region ?_
  refine Fw.s (Fw.val_move rfl) rfl ?_
  refine Fw.s (Fw.val_bin rfl rfl (Fw.b_add (Fw.i64_ok (by omega)))) rfl ?_
  refine Fw.s (Fw.val_assign rfl) rfl ?_
  refine Fw.nil ?_
  refine Fw.roundEnd _ _ (by omega) ⟨k + 1, rfl, by omega, Hn, HD, HL, HB, rfl⟩ (.cons rfl (.cons rfl (.cons rfl (.cons rfl (.cons rfl (.cons rfl .nil))))))
  rintro hk1
  refine Fw.nil ?_
  refine hK8 _ _ ?_
  refine Fw.condF rfl ?_
  refine Fw.exit ?_
  refine Fw.X_exit ?_
  refine Fw.X_exit ?_
  refine Fw.X_block ?_
  refine hK4 _ _ ?_
  refine Fw.seq fun _ hK13 => ?_
  have hk_ : k = N := by omega
  rw [hk_, Nat.sub_self, List.replicate_zero, List.append_nil] at HL
  refine Fw.region ?_
  refine Fw.s (Fw.val_move rfl) rfl ?_
  refine Fw.s (Fw.val_move rfl) rfl ?_
  have EW14 := True.intro
  refine Fw.s (Fw.val_indexR Try.underlying100 sz2 rfl rfl rfl rfl hb (by rw [Fw.add_flat, Nat.zero_add, Nat.mul_one])) rfl ?_
  refine Fw.storeR sz2 rfl rfl HL (by simp; omega) rfl rfl ?_
  intro w7 N_ hc
  replace Hn := Hn.chg hc (by omega)
  replace HD := own_to HD hc (fun g_ h_ e_ => by injection h_ with h_; have h_ : gD = g_ := h_; have e_ : g_ = gL := e_; omega)
  replace HB := HB.trans (hc.below (B := w.heap.size) (fun k e => by omega) HB.size)
  clear hc
  clear HL EW14
  have HL := N_
  clear N_
  replace HL : World.ownsRow w7 w.heap.size 2 1 (.slice (some ⟨gL, 0, none⟩) N N) N ((Sp.init N [(b : Int)]).map (.int .i64)) := by rw [show Sp.init N [(b : Int)] = (List.replicate N Sp.INF).set b 0 from Rg.init1_at rfl hb]; simpa using HL
  refine Fw.nil ?_
  refine hK13 _ _ (Fw.FC.sub (f' := [(8, _), (7, _), (3, _), (1, _)]) (.cons rfl (.cons rfl (.cons rfl (.cons rfl .nil)))) ?_)
  refine Fw.seq fun _ hK16 => ?_
  refine Fw.seq fun _ hK17 => ?_
  refine Fw.region ?_
  refine Fw.s (Fw.val_assign rfl) rfl ?_
  refine Fw.nil ?_
  refine hK17 _ _ ?_
  refine Fw.block ?_
  refine Fw.loop (fun m_ f_ W_ => ∃ (k : Nat), m_ = N - k ∧ k ≤ N ∧ Sp.Bd N (Sp.rounds (Sp.tightA (Rg.arcT N E ts false) (Sp.ix (Sp.rounds (Rg.arcT N E ts false) (Sp.init N [(b : Int)]) N))) (Sp.init N [(b : Int)]) k) ∧ Blk W_ gn 24 #[.int .i64 (N : Int), .slice Ae E.length ce] ∧ World.ownsRow W_ w.heap.size 2 1 (.slice (some ⟨gD, 0, none⟩) N cD) N ((Sp.rounds (Rg.arcT N E ts false) (Sp.init N [(b : Int)]) N).map (.int .i64)) ∧ World.ownsRow W_ w.heap.size 2 1 (.slice (some ⟨gL, 0, none⟩) N N) N ((Sp.rounds (Sp.tightA (Rg.arcT N E ts false) (Sp.ix (Sp.rounds (Rg.arcT N E ts false) (Sp.init N [(b : Int)]) N))) (Sp.init N [(b : Int)]) k).map (.int .i64)) ∧ Below (w.heap.size) w W_ ∧ f_ = [(10, .int .i64 k), (8, .slice (some ⟨gL, 0, none⟩) N N), (7, .slice (some ⟨gD, 0, none⟩) N cD), (3, .pointer (some ⟨gn, 0, none⟩)), (1, .slice A ts.length c)]) ⟨_, _, ⟨0, rfl, Nat.zero_le _, Sp.Bd.init N _, Hn, HD, HL, HB, rfl⟩, (.cons rfl (.cons rfl (.cons rfl (.cons rfl (.cons rfl .nil)))))⟩ ?_
  clear Hn HD HL HB
  rintro m18_ _ w8 ⟨k, hm18_, hkn, hbd, Hn, HD, HL, HB, rfl⟩
  refine Fw.seq fun _ hK19 => ?_
  refine Fw.seq fun _ hK20 => ?_
  refine Fw.region ?_
  refine Fw.s (Fw.val_move rfl) rfl ?_
  refine Fw.s (Fw.val_fieldAddr fl24_0 rfl rfl) rfl ?_
  refine Fw.ld sc3 rfl (Hn.cell 0) rfl ?_
  refine Fw.s2 (Fw.val_bin rfl rfl Fw.b_lss) rfl ?_ ?_
  rintro hk3
  refine Fw.nil ?_
  refine hK20 _ _ ?_
  refine Fw.condT rfl ?_
  refine Fw.skip ?_
  refine hK19 _ _ ?_
  refine Fw.seq fun _ hK22 => ?_
  refine Fw.block ?_
  refine Fw.seq fun _ hK23 => ?_
  refine Fw.region ?_
  refine Fw.s (Fw.val_assign rfl) rfl ?_
  refine Fw.nil ?_
  refine hK23 _ _ ?_
  refine Fw.block ?_
  refine Fw.loop (fun m_ f_ W_ => ∃ (j : Nat), m_ = E.length - j ∧ j ≤ E.length ∧ Sp.Bd N (Sp.upTo (Sp.tightA (Rg.arcT N E ts false) (Sp.ix (Sp.rounds (Rg.arcT N E ts false) (Sp.init N [(b : Int)]) N))) (Sp.rounds (Sp.tightA (Rg.arcT N E ts false) (Sp.ix (Sp.rounds (Rg.arcT N E ts false) (Sp.init N [(b : Int)]) N))) (Sp.init N [(b : Int)]) k) j) ∧ Blk W_ gn 24 #[.int .i64 (N : Int), .slice Ae E.length ce] ∧ World.ownsRow W_ w.heap.size 2 1 (.slice (some ⟨gD, 0, none⟩) N cD) N ((Sp.rounds (Rg.arcT N E ts false) (Sp.init N [(b : Int)]) N).map (.int .i64)) ∧ World.ownsRow W_ w.heap.size 2 1 (.slice (some ⟨gL, 0, none⟩) N N) N ((Sp.upTo (Sp.tightA (Rg.arcT N E ts false) (Sp.ix (Sp.rounds (Rg.arcT N E ts false) (Sp.init N [(b : Int)]) N))) (Sp.rounds (Sp.tightA (Rg.arcT N E ts false) (Sp.ix (Sp.rounds (Rg.arcT N E ts false) (Sp.init N [(b : Int)]) N))) (Sp.init N [(b : Int)]) k) j).map (.int .i64)) ∧ Below (w.heap.size) w W_ ∧ f_ = [(11, .int .i64 j), (10, .int .i64 k), (8, .slice (some ⟨gL, 0, none⟩) N N), (7, .slice (some ⟨gD, 0, none⟩) N cD), (3, .pointer (some ⟨gn, 0, none⟩)), (1, .slice A ts.length c)]) ⟨_, _, ⟨0, rfl, Nat.zero_le _, hbd, Hn, HD, HL, HB, rfl⟩, (.cons rfl (.cons rfl (.cons rfl (.cons rfl (.cons rfl (.cons rfl .nil))))))⟩ ?_
  clear Hn HD HL HB
  rintro m24_ _ w9 ⟨j, hm24_, hjn, hbd2, Hn, HD, HL, HB, rfl⟩
  refine Fw.seq fun _ hK25 => ?_
  refine Fw.seq fun _ hK26 => ?_
  refine Fw.region ?_
  refine Fw.s (Fw.val_move rfl) rfl ?_
  refine Fw.s (Fw.val_fieldAddr fl24_1 rfl rfl) rfl ?_
  refine Fw.ld sc22 rfl (Hn.cell 1) rfl ?_
  refine Fw.s (Fw.val_len Try.underlying22 rfl) rfl ?_
  refine Fw.s2 (Fw.val_bin rfl rfl Fw.b_lss) rfl ?_ ?_
  rintro hj1
  refine Fw.nil ?_
  refine hK26 _ _ ?_
  refine Fw.condT rfl ?_
  refine Fw.skip ?_
  refine hK25 _ _ ?_
  refine Fw.seq fun _ hK28 => ?_
  refine Fw.block ?_
  refine Fw.seq fun _ hK29 => ?_
  have hjl : j < E.length := by omega
  obtain ⟨ae, be_, oe_, hAe, hadde, HEe⟩ := Fw.rdAt Rg.Ed.len (by decide) hE j hjl
  have hje := hEO _ (List.getElem_mem hjl)
  have hUl : (Sp.upTo (Sp.tightA (Rg.arcT N E ts false) (Sp.ix (Sp.rounds (Rg.arcT N E ts false) (Sp.init N [(b : Int)]) N))) (Sp.rounds (Sp.tightA (Rg.arcT N E ts false) (Sp.ix (Sp.rounds (Rg.arcT N E ts false) (Sp.init N [(b : Int)]) N))) (Sp.init N [(b : Int)]) k) j).length = N := hbd2.1
  have hfl : E[j].f < (Sp.upTo (Sp.tightA (Rg.arcT N E ts false) (Sp.ix (Sp.rounds (Rg.arcT N E ts false) (Sp.init N [(b : Int)]) N))) (Sp.rounds (Sp.tightA (Rg.arcT N E ts false) (Sp.ix (Sp.rounds (Rg.arcT N E ts false) (Sp.init N [(b : Int)]) N))) (Sp.init N [(b : Int)]) k) j).length := by omega
  have htl : E[j].t < (Sp.upTo (Sp.tightA (Rg.arcT N E ts false) (Sp.ix (Sp.rounds (Rg.arcT N E ts false) (Sp.init N [(b : Int)]) N))) (Sp.rounds (Sp.tightA (Rg.arcT N E ts false) (Sp.ix (Sp.rounds (Rg.arcT N E ts false) (Sp.init N [(b : Int)]) N))) (Sp.init N [(b : Int)]) k) j).length := by omega
  have hdf : E[j].f < (Sp.rounds (Rg.arcT N E ts false) (Sp.init N [(b : Int)]) N).length := by omega
  have hdt : E[j].t < (Sp.rounds (Rg.arcT N E ts false) (Sp.init N [(b : Int)]) N).length := by omega
  have hbf : 0 ≤ (Sp.upTo (Sp.tightA (Rg.arcT N E ts false) (Sp.ix (Sp.rounds (Rg.arcT N E ts false) (Sp.init N [(b : Int)]) N))) (Sp.rounds (Sp.tightA (Rg.arcT N E ts false) (Sp.ix (Sp.rounds (Rg.arcT N E ts false) (Sp.init N [(b : Int)]) N))) (Sp.init N [(b : Int)]) k) j)[E[j].t] ∧ (Sp.upTo (Sp.tightA (Rg.arcT N E ts false) (Sp.ix (Sp.rounds (Rg.arcT N E ts false) (Sp.init N [(b : Int)]) N))) (Sp.rounds (Sp.tightA (Rg.arcT N E ts false) (Sp.ix (Sp.rounds (Rg.arcT N E ts false) (Sp.init N [(b : Int)]) N))) (Sp.init N [(b : Int)]) k) j)[E[j].t] ≤ 4611686018427387904 := by have := hbd2.2 _ hje.2; rw [Sp.ix_get htl] at this; exact this
  have hbg : 0 ≤ (Sp.rounds (Rg.arcT N E ts false) (Sp.init N [(b : Int)]) N)[E[j].t] ∧ (Sp.rounds (Rg.arcT N E ts false) (Sp.init N [(b : Int)]) N)[E[j].t] ≤ 4611686018427387904 := by have := hdbd.2 _ hje.2; rw [Sp.ix_get hdt] at this; exact this
  have htb : Rg.tt ts j = 4611686018427387904 ∨ (1 ≤ Rg.tt ts j ∧ Rg.tt ts j ≤ 1048576) := Rg.tt_bd ts j
  refine Fw.region ?_
  refine Fw.s (Fw.val_fieldAddr fl24_1 rfl rfl) rfl ?_
  refine Fw.ld sc22 rfl (Hn.cell 1) rfl ?_
  refine Fw.s (Fw.val_move rfl) rfl ?_
  refine Fw.s (Fw.val_indexR Try.underlying22 sz75 rfl hAe rfl rfl hjl hadde) rfl ?_
  refine Fw.ldA ag75 rfl ((HEe.low HB)) rfl rfl ?_
  refine Fw.alloc ze75 rfl ?_
  intro w10 ge ege He hb
  have n_gL_ge : gL < ge := by have := (HL.lt gL rfl).2; omega
  have n_gD_ge : gD < ge := by have := (HD.lt gD rfl).2; omega
  have n_gn_ge : gn < ge := by have := Hn.lt; omega
  have lge : w.heap.size ≤ ge := by have := HB.size; omega
  replace Hn := Hn.low hb
  replace HD := own_below HD hb (Nat.le_refl _)
  replace HL := own_below HL hb (Nat.le_refl _)
  replace HB := HB.trans (hb.mono HB.size)
  clear hb
  clear ege
  refine Fw.storeW sz75 rfl rfl He rfl rfl (by exact Fw.oneCells rfl) ?_
  intro w11 N_ hc
  replace Hn := Hn.chg hc (by omega)
  replace HD := own_to HD hc (fun g_ h_ e_ => by injection h_ with h_; have h_ : gD = g_ := h_; have e_ : g_ = ge := e_; omega)
  replace HL := own_to HL hc (fun g_ h_ e_ => by injection h_ with h_; have h_ : gL = g_ := h_; have e_ : g_ = ge := e_; omega)
  replace HB := HB.trans (hc.below (B := w.heap.size) (fun k e => by omega) HB.size)
  clear hc
  clear He
  have He := N_
  clear N_
  replace He : Blk w11 ge 75 #[.int .i64 (E[j].f : Int), .int .i64 (E[j].t : Int), .int .i64 E[j].m] := He
  refine Fw.nil ?_
  refine hK29 _ _ (Fw.FC.sub (f' := [(12, _), (11, _), (10, _), (8, _), (7, _), (3, _), (1, _)]) (.cons rfl (.cons rfl (.cons rfl (.cons rfl (.cons rfl (.cons rfl (.cons rfl .nil))))))) ?_)
  refine Fw.seq fun _ hK31 => ?_
  refine Fw.region ?_
  refine Fw.s (Fw.val_move rfl) rfl ?_
  refine Fw.s (Fw.val_move rfl) rfl ?_
  refine Fw.call cf74 rfl rfl (time_any _ A ts c (h.low HB) j) ?_
  rintro e_ _ ⟨rfl, rfl⟩
  refine ⟨_, rfl, ?_⟩
  refine Fw.s (Fw.val_assign rfl) rfl ?_
  refine Fw.nil ?_
  refine hK31 _ _ ?_
  refine Fw.seq fun _ hK32 => ?_
  refine Fw.regionQ (by kernel_rfl) (by kernel_rfl) ?_
  refine Fw.q (Fw.val_move rfl) rfl ?_
  refine Fw.callQ cf42 rfl rfl (fun w_ hb_ => never_any _) (fun _ _ _ h => ⟨h.1, h.2 ▸ Below.refl _ _⟩) ?_
  refine Fw.q2 (Fw.val_bin rfl rfl Fw.b_lss) rfl ?_ ?_
  rintro hq1
  refine Fw.q (Fw.val_move rfl) rfl ?_
  refine Fw.gTQ (d := 59) rfl rfl ?_
  refine Fw.q (Fw.val_move rfl) rfl ?_
  refine Fw.gTQ (d := 59) rfl rfl ?_
  refine Fw.q (Fw.val_fieldAddr fl75_1 rfl rfl) rfl ?_
  refine Fw.gTQ (d := 59) rfl rfl ?_
  refine Fw.ldQ sc3 rfl (He.cell 1) rfl ?_
  refine Fw.gTQ (d := 59) rfl rfl ?_
  have HC1 := Rg.own_cell HD _ hdt
  refine Fw.q (Fw.val_indexR Try.underlying100 sz2 rfl rfl rfl rfl hje.2 (by rw [Fw.add_flat, Nat.zero_add, Nat.mul_one])) rfl ?_
  refine Fw.gTQ (d := 59) rfl rfl ?_
  refine Fw.ldQ sc2 rfl (HC1) rfl ?_
  refine Fw.gTQ (d := 59) rfl rfl ?_
  refine Fw.callQ cf42 rfl rfl (fun w_ hb_ => never_any _) (fun _ _ _ h => ⟨h.1, h.2 ▸ Below.refl _ _⟩) ?_
  refine Fw.gTQ (d := 59) rfl rfl ?_
  refine Fw.q2 (Fw.val_bin rfl rfl Fw.b_lss) rfl ?_ ?_
  rintro hq2
  refine Fw.q (Fw.val_pickT rfl rfl) rfl ?_
  refine Fw.q (Fw.val_move rfl) rfl ?_
  refine Fw.gTQ (d := 68) rfl rfl ?_
  refine Fw.q (Fw.val_move rfl) rfl ?_
  refine Fw.gTQ (d := 68) rfl rfl ?_
  refine Fw.q (Fw.val_fieldAddr fl75_0 rfl rfl) rfl ?_
  refine Fw.gTQ (d := 68) rfl rfl ?_
  refine Fw.ldQ sc3 rfl (He.cell 0) rfl ?_
  refine Fw.gTQ (d := 68) rfl rfl ?_
  have HC2 := Rg.own_cell HD _ hdf
  refine Fw.q (Fw.val_indexR Try.underlying100 sz2 rfl rfl rfl rfl hje.1 (by rw [Fw.add_flat, Nat.zero_add, Nat.mul_one])) rfl ?_
  refine Fw.gTQ (d := 68) rfl rfl ?_
  refine Fw.ldQ sc2 rfl (HC2) rfl ?_
  refine Fw.gTQ (d := 68) rfl rfl ?_
  refine Fw.q (Fw.val_move rfl) rfl ?_
  refine Fw.gTQ (d := 68) rfl rfl ?_
  refine Fw.q (Fw.val_move rfl) rfl ?_
  refine Fw.gTQ (d := 68) rfl rfl ?_
  refine Fw.q (Fw.val_fieldAddr fl75_1 rfl rfl) rfl ?_
  refine Fw.gTQ (d := 68) rfl rfl ?_
  refine Fw.ldQ sc3 rfl (He.cell 1) rfl ?_
  refine Fw.gTQ (d := 68) rfl rfl ?_
  have HC1 := Rg.own_cell HD _ hdt
  refine Fw.q (Fw.val_indexR Try.underlying100 sz2 rfl rfl rfl rfl hje.2 (by rw [Fw.add_flat, Nat.zero_add, Nat.mul_one])) rfl ?_
  refine Fw.gTQ (d := 68) rfl rfl ?_
  refine Fw.ldQ sc2 rfl (HC1) rfl ?_
  refine Fw.gTQ (d := 68) rfl rfl ?_
  refine Fw.q (Fw.val_bin rfl rfl (Fw.b_add (Fw.i64_ok (by omega)))) rfl ?_
  refine Fw.gTQ (d := 68) rfl rfl ?_
  refine Fw.q2 (Fw.val_bin rfl rfl Fw.b_eql) rfl ?_ ?_
  rintro hq3
  refine Fw.q (Fw.val_pickT rfl rfl) rfl ?_
  refine Fw.q (Fw.val_move rfl) rfl ?_
  refine Fw.gTQ (d := 83) rfl rfl ?_
  refine Fw.q (Fw.val_move rfl) rfl ?_
  refine Fw.gTQ (d := 83) rfl rfl ?_
  refine Fw.q (Fw.val_fieldAddr fl75_1 rfl rfl) rfl ?_
  refine Fw.gTQ (d := 83) rfl rfl ?_
  refine Fw.ldQ sc3 rfl (He.cell 1) rfl ?_
  refine Fw.gTQ (d := 83) rfl rfl ?_
  have HC3 := Rg.own_cell HL _ htl
  refine Fw.q (Fw.val_indexR Try.underlying100 sz2 rfl rfl rfl rfl hje.2 (by rw [Fw.add_flat, Nat.zero_add, Nat.mul_one])) rfl ?_
  refine Fw.gTQ (d := 83) rfl rfl ?_
  refine Fw.ldQ sc2 rfl (HC3) rfl ?_
  refine Fw.gTQ (d := 83) rfl rfl ?_
  refine Fw.q (Fw.val_bin rfl rfl (Fw.b_add (Fw.i64_ok (by omega)))) rfl ?_
  refine Fw.gTQ (d := 83) rfl rfl ?_
  refine Fw.q (Fw.val_move rfl) rfl ?_
  refine Fw.gTQ (d := 83) rfl rfl ?_
  refine Fw.q (Fw.val_fieldAddr fl75_0 rfl rfl) rfl ?_
  refine Fw.gTQ (d := 83) rfl rfl ?_
  refine Fw.ldQ sc3 rfl (He.cell 0) rfl ?_
  refine Fw.gTQ (d := 83) rfl rfl ?_
  have HC4 := Rg.own_cell HL _ hfl
  refine Fw.q (Fw.val_indexR Try.underlying100 sz2 rfl rfl rfl rfl hje.1 (by rw [Fw.add_flat, Nat.zero_add, Nat.mul_one])) rfl ?_
  refine Fw.gTQ (d := 83) rfl rfl ?_
  refine Fw.ldQ sc2 rfl (HC4) rfl ?_
  refine Fw.gTQ (d := 83) rfl rfl ?_
  refine Fw.q2 (Fw.val_bin rfl rfl Fw.b_lss) rfl ?_ ?_
  rintro hq4
  refine Fw.q (Fw.val_pickT rfl rfl) rfl ?_
  refine Fw.nilQ ?_
  intro w12 hb
  replace Hn := Hn.low hb
  replace HD := own_below HD hb (Nat.le_refl _)
  replace HL := own_below HL hb (Nat.le_refl _)
  replace He := He.low hb
  replace HC1 := (hb.cell (World.block_lt_of_cell? _ _ HC1)).trans HC1
  replace HC2 := (hb.cell (World.block_lt_of_cell? _ _ HC2)).trans HC2
  replace HC3 := (hb.cell (World.block_lt_of_cell? _ _ HC3)).trans HC3
  replace HC4 := (hb.cell (World.block_lt_of_cell? _ _ HC4)).trans HC4
  replace HB := HB.trans (hb.mono HB.size)
  clear hb
  refine hK32 _ _ (Fw.FC.sub (f' := [(96, _), (95, _), (94, _), (93, _), (92, _), (91, _), (90, _), (89, _), (88, _), (87, _), (86, _), (85, _), (84, _), (81, _), (80, _), (79, _), (78, _), (77, _), (76, _), (75, _), (74, _), (73, _), (72, _), (71, _), (70, _), (69, _), (66, _), (65, _), (64, _), (63, _), (62, _), (61, _), (60, _), (12, _), (11, _), (10, _), (8, _), (7, _), (3, _), (1, _)]) (.cons rfl (.cons rfl (.cons rfl (.cons rfl (.cons rfl (.cons rfl (.cons rfl (.cons rfl (.cons rfl (.cons rfl (.cons rfl (.cons rfl (.cons rfl (.cons rfl (.cons rfl (.cons rfl (.cons rfl (.cons rfl (.cons rfl (.cons rfl (.cons rfl (.cons rfl (.cons rfl (.cons rfl (.cons rfl (.cons rfl (.cons rfl (.cons rfl (.cons rfl (.cons rfl (.cons rfl (.cons rfl (.cons rfl (.cons rfl (.cons rfl (.cons rfl (.cons rfl (.cons rfl (.cons rfl (.cons rfl .nil)))))))))))))))))))))))))))))))))))))))) ?_)
  refine Fw.condT rfl ?_
  refine Fw.regionHS (Chg (· = gL) w12) (by kernel_rfl) (Chg.of_below (Fw.drew_low w12) _) ?_
  have R_Hn := Hn
  have R_He := He
  have R_HC1 := HC1
  have R_HC2 := HC2
  have R_HC3 := HC3
  have R_HC4 := HC4
  have R_HB := HB
  intro w13 hb HS
  replace Hn := Hn.low hb
  replace HD := own_below HD hb (Nat.le_refl _)
  replace HL := own_below HL hb (Nat.le_refl _)
  replace He := He.low hb
  replace HC1 := (hb.cell (World.block_lt_of_cell? _ _ HC1)).trans HC1
  replace HC2 := (hb.cell (World.block_lt_of_cell? _ _ HC2)).trans HC2
  replace HC3 := (hb.cell (World.block_lt_of_cell? _ _ HC3)).trans HC3
  replace HC4 := (hb.cell (World.block_lt_of_cell? _ _ HC4)).trans HC4
  replace HB := HB.trans (hb.mono HB.size)
  clear hb
  refine Fw.hTk 0 rfl rfl (Fw.yV (Fw.val_move rfl)) rfl ?_
  refine Fw.hTk 1 rfl rfl (Fw.yV (Fw.val_fieldAddr fl75_0 rfl rfl)) rfl ?_
  refine Fw.hTk 2 rfl rfl (Fw.yV (Fw.hLdC sc3 rfl (R_He.cell 0) (by show ¬ ge = gL; omega))) rfl ?_
  refine Fw.hTk 3 rfl rfl (Fw.yV (Fw.val_move rfl)) rfl ?_
  refine Fw.hTk 4 rfl rfl (Fw.yV (Fw.val_fieldAddr fl75_1 rfl rfl)) rfl ?_
  refine Fw.hTk 5 rfl rfl (Fw.yV (Fw.hLdC sc3 rfl (R_He.cell 1) (by show ¬ ge = gL; omega))) rfl ?_
  have HC3 := Rg.own_cell HL _ htl
  refine Fw.hTk 6 rfl rfl (Fw.yV (Fw.val_indexR Try.underlying100 sz2 rfl rfl rfl rfl hje.2 (by rw [Fw.add_flat, Nat.zero_add, Nat.mul_one]))) rfl ?_
  refine Fw.hAll1 7 (by kernel_rfl) ?_
  refine Fw.hOp 7 rfl ?_
  refine Fw.ld sc2 rfl (HC3) rfl ?_
  refine Fw.hNext HS ?_
  refine Fw.hTk 8 rfl rfl (Fw.yV (Fw.val_bin rfl rfl (Fw.b_add (Fw.i64_ok (by omega))))) rfl ?_
  have EW43 := True.intro
  refine Fw.hTk 9 rfl rfl (Fw.yV (Fw.val_indexR Try.underlying100 sz2 rfl rfl rfl rfl hje.1 (by rw [Fw.add_flat, Nat.zero_add, Nat.mul_one]))) rfl ?_
  refine Fw.hAll1 10 (by kernel_rfl) ?_
  refine Fw.hOp 10 rfl ?_
  refine Fw.storeR sz2 rfl rfl HL (by simpa using hfl) rfl rfl ?_
  intro w14 N_ hc
  replace Hn := Hn.chg hc (by omega)
  replace HD := own_to HD hc (fun g_ h_ e_ => by injection h_ with h_; have h_ : gD = g_ := h_; have e_ : g_ = gL := e_; omega)
  replace He := He.chg hc (by omega)
  replace HS := HS.trans hc (fun _ _ h => h)
  replace HB := HB.trans (hc.below (B := w.heap.size) (fun k e => by omega) HB.size)
  clear hc
  clear HL EW43
  have HL := N_
  clear N_
  replace HL : World.ownsRow w14 w.heap.size 2 1 (.slice (some ⟨gL, 0, none⟩) N N) N (((Sp.upTo (Sp.tightA (Rg.arcT N E ts false) (Sp.ix (Sp.rounds (Rg.arcT N E ts false) (Sp.init N [(b : Int)]) N))) (Sp.rounds (Sp.tightA (Rg.arcT N E ts false) (Sp.ix (Sp.rounds (Rg.arcT N E ts false) (Sp.init N [(b : Int)]) N))) (Sp.init N [(b : Int)]) k) j).set E[j].f ((Sp.upTo (Sp.tightA (Rg.arcT N E ts false) (Sp.ix (Sp.rounds (Rg.arcT N E ts false) (Sp.init N [(b : Int)]) N))) (Sp.rounds (Sp.tightA (Rg.arcT N E ts false) (Sp.ix (Sp.rounds (Rg.arcT N E ts false) (Sp.init N [(b : Int)]) N))) (Sp.init N [(b : Int)]) k) j)[E[j].t] + 1)).map (.int .i64)) := by simpa using HL
  refine Fw.hNext HS ?_
  refine Fw.hDone (by kernel_rfl) ?_
  refine Fw.X_blockN ?_
  refine hK28 _ _ (Fw.FC.sub (f' := [(95, _), (94, _), (93, _), (92, _), (91, _), (90, _), (89, _), (88, _), (87, _), (86, _), (85, _), (84, _), (81, _), (80, _), (79, _), (78, _), (77, _), (76, _), (75, _), (74, _), (73, _), (72, _), (71, _), (70, _), (69, _), (66, _), (65, _), (64, _), (63, _), (62, _), (61, _), (60, _), (11, _), (10, _), (8, _), (7, _), (3, _), (1, _)]) (.cons rfl (.cons rfl (.cons rfl (.cons rfl (.cons rfl (.cons rfl (.cons rfl (.cons rfl (.cons rfl (.cons rfl (.cons rfl (.cons rfl (.cons rfl (.cons rfl (.cons rfl (.cons rfl (.cons rfl (.cons rfl (.cons rfl (.cons rfl (.cons rfl (.cons rfl (.cons rfl (.cons rfl (.cons rfl (.cons rfl (.cons rfl (.cons rfl (.cons rfl (.cons rfl (.cons rfl (.cons rfl (.cons rfl (.cons rfl (.cons rfl (.cons rfl (.cons rfl (.cons rfl .nil)))))))))))))))))))))))))))))))))))))) ?_)
  refine Fw.region ?_
  refine Fw.s (Fw.val_move rfl) rfl ?_
  refine Fw.s (Fw.val_bin rfl rfl (Fw.b_add (Fw.i64_ok (by omega)))) rfl ?_
  refine Fw.s (Fw.val_assign rfl) rfl ?_
  refine Fw.nil ?_
  replace HL : World.ownsRow w14 w.heap.size 2 1 (.slice (some ⟨gL, 0, none⟩) N N) N ((Sp.upTo (Sp.tightA (Rg.arcT N E ts false) (Sp.ix (Sp.rounds (Rg.arcT N E ts false) (Sp.init N [(b : Int)]) N))) (Sp.rounds (Sp.tightA (Rg.arcT N E ts false) (Sp.ix (Sp.rounds (Rg.arcT N E ts false) (Sp.init N [(b : Int)]) N))) (Sp.init N [(b : Int)]) k) (j + 1)).map (.int .i64)) := by
    rw [Sp.upTo_succ]; rw [Rg.rlxT hjl hfl htl (hbd2.2 _ hje.1).2, if_pos ⟨hq1, by rw [Sp.ix_get hdt]; exact hq2, by rw [Sp.ix_get hdt, Sp.ix_get hdf]; exact hq3, hq4⟩]; exact HL
  refine Fw.roundEnd _ _ (by omega) ⟨j + 1, rfl, by omega, by rw [Sp.upTo_succ]; exact hbd2.rlx hTA hjl, Hn, HD, HL, HB, rfl⟩ (.cons rfl (.cons rfl (.cons rfl (.cons rfl (.cons rfl (.cons rfl .nil))))))
  rintro hq4
  refine Fw.q (Fw.val_pickT rfl rfl) rfl ?_
  refine Fw.nilQ ?_
  intro w15 hb
  replace Hn := Hn.low hb
  replace HD := own_below HD hb (Nat.le_refl _)
  replace HL := own_below HL hb (Nat.le_refl _)
  replace He := He.low hb
  replace HC1 := (hb.cell (World.block_lt_of_cell? _ _ HC1)).trans HC1
  replace HC2 := (hb.cell (World.block_lt_of_cell? _ _ HC2)).trans HC2
  replace HC3 := (hb.cell (World.block_lt_of_cell? _ _ HC3)).trans HC3
  replace HC4 := (hb.cell (World.block_lt_of_cell? _ _ HC4)).trans HC4
  replace HB := HB.trans (hb.mono HB.size)
  clear hb
  refine hK32 _ _ (Fw.FC.sub (f' := [(96, _), (95, _), (94, _), (93, _), (92, _), (91, _), (90, _), (89, _), (88, _), (87, _), (86, _), (85, _), (84, _), (81, _), (80, _), (79, _), (78, _), (77, _), (76, _), (75, _), (74, _), (73, _), (72, _), (71, _), (70, _), (69, _), (66, _), (65, _), (64, _), (63, _), (62, _), (61, _), (60, _), (12, _), (11, _), (10, _), (8, _), (7, _), (3, _), (1, _)]) (.cons rfl (.cons rfl (.cons rfl (.cons rfl (.cons rfl (.cons rfl (.cons rfl (.cons rfl (.cons rfl (.cons rfl (.cons rfl (.cons rfl (.cons rfl (.cons rfl (.cons rfl (.cons rfl (.cons rfl (.cons rfl (.cons rfl (.cons rfl (.cons rfl (.cons rfl (.cons rfl (.cons rfl (.cons rfl (.cons rfl (.cons rfl (.cons rfl (.cons rfl (.cons rfl (.cons rfl (.cons rfl (.cons rfl (.cons rfl (.cons rfl (.cons rfl (.cons rfl (.cons rfl (.cons rfl (.cons rfl .nil)))))))))))))))))))))))))))))))))))))))) ?_)
  refine Fw.condF rfl ?_
  refine Fw.skip ?_
  refine Fw.X_blockN ?_
  refine hK28 _ _ ?_
  refine Fw.region ?_
  refine Fw.s (Fw.val_move rfl) rfl ?_
  refine Fw.s (Fw.val_bin rfl rfl (Fw.b_add (Fw.i64_ok (by omega)))) rfl ?_
  refine Fw.s (Fw.val_assign rfl) rfl ?_
  refine Fw.nil ?_
  replace HL : World.ownsRow w15 w.heap.size 2 1 (.slice (some ⟨gL, 0, none⟩) N N) N ((Sp.upTo (Sp.tightA (Rg.arcT N E ts false) (Sp.ix (Sp.rounds (Rg.arcT N E ts false) (Sp.init N [(b : Int)]) N))) (Sp.rounds (Sp.tightA (Rg.arcT N E ts false) (Sp.ix (Sp.rounds (Rg.arcT N E ts false) (Sp.init N [(b : Int)]) N))) (Sp.init N [(b : Int)]) k) (j + 1)).map (.int .i64)) := by
    rw [Sp.upTo_succ]; rw [Rg.rlxT hjl hfl htl (hbd2.2 _ hje.1).2, if_neg (by rw [Sp.ix_get hdt, Sp.ix_get hdf]; omega)]; exact HL
  refine Fw.roundEnd _ _ (by omega) ⟨j + 1, rfl, by omega, by rw [Sp.upTo_succ]; exact hbd2.rlx hTA hjl, Hn, HD, HL, HB, rfl⟩ (.cons rfl (.cons rfl (.cons rfl (.cons rfl (.cons rfl (.cons rfl .nil))))))
  rintro hq3
  refine Fw.q (Fw.val_pickT rfl rfl) rfl ?_
  refine Fw.q (Fw.val_move rfl) rfl ?_
  refine Fw.gFQ (d := 83) rfl rfl rfl rfl ?_
  refine Fw.gFQ (d := 83) rfl rfl rfl rfl ?_
  refine Fw.gFQ (d := 83) rfl rfl rfl rfl ?_
  refine Fw.gFQ (d := 83) rfl rfl rfl rfl ?_
  refine Fw.gFQ (d := 83) rfl rfl rfl rfl ?_
  refine Fw.gFQ (d := 83) rfl rfl rfl rfl ?_
  refine Fw.gFQ (d := 83) rfl rfl rfl rfl ?_
  refine Fw.gFQ (d := 83) rfl rfl rfl rfl ?_
  refine Fw.gFQ (d := 83) rfl rfl rfl rfl ?_
  refine Fw.gFQ (d := 83) rfl rfl rfl rfl ?_
  refine Fw.gFQ (d := 83) rfl rfl rfl rfl ?_
  refine Fw.gFQ (d := 83) rfl rfl rfl rfl ?_
  refine Fw.q (Fw.val_pickF rfl rfl) rfl ?_
  refine Fw.nilQ ?_
  intro w16 hb
  replace Hn := Hn.low hb
  replace HD := own_below HD hb (Nat.le_refl _)
  replace HL := own_below HL hb (Nat.le_refl _)
  replace He := He.low hb
  replace HC1 := (hb.cell (World.block_lt_of_cell? _ _ HC1)).trans HC1
  replace HC2 := (hb.cell (World.block_lt_of_cell? _ _ HC2)).trans HC2
  replace HB := HB.trans (hb.mono HB.size)
  clear hb
  refine hK32 _ _ (Fw.FC.sub (f' := [(96, _), (95, _), (94, _), (93, _), (92, _), (91, _), (90, _), (89, _), (88, _), (87, _), (86, _), (85, _), (84, _), (81, _), (80, _), (79, _), (78, _), (77, _), (76, _), (75, _), (74, _), (73, _), (72, _), (71, _), (70, _), (69, _), (66, _), (65, _), (64, _), (63, _), (62, _), (61, _), (60, _), (12, _), (11, _), (10, _), (8, _), (7, _), (3, _), (1, _)]) (.cons rfl (.cons rfl (.cons rfl (.cons rfl (.cons rfl (.cons rfl (.cons rfl (.cons rfl (.cons rfl (.cons rfl (.cons rfl (.cons rfl (.cons rfl (.cons rfl (.cons rfl (.cons rfl (.cons rfl (.cons rfl (.cons rfl (.cons rfl (.cons rfl (.cons rfl (.cons rfl (.cons rfl (.cons rfl (.cons rfl (.cons rfl (.cons rfl (.cons rfl (.cons rfl (.cons rfl (.cons rfl (.cons rfl (.cons rfl (.cons rfl (.cons rfl (.cons rfl (.cons rfl (.cons rfl (.cons rfl .nil)))))))))))))))))))))))))))))))))))))))) ?_)
  refine Fw.condF rfl ?_
  refine Fw.skip ?_
  refine Fw.X_blockN ?_
  refine hK28 _ _ ?_
  refine Fw.region ?_
  refine Fw.s (Fw.val_move rfl) rfl ?_
  refine Fw.s (Fw.val_bin rfl rfl (Fw.b_add (Fw.i64_ok (by omega)))) rfl ?_
  refine Fw.s (Fw.val_assign rfl) rfl ?_
  refine Fw.nil ?_
  replace HL : World.ownsRow w16 w.heap.size 2 1 (.slice (some ⟨gL, 0, none⟩) N N) N ((Sp.upTo (Sp.tightA (Rg.arcT N E ts false) (Sp.ix (Sp.rounds (Rg.arcT N E ts false) (Sp.init N [(b : Int)]) N))) (Sp.rounds (Sp.tightA (Rg.arcT N E ts false) (Sp.ix (Sp.rounds (Rg.arcT N E ts false) (Sp.init N [(b : Int)]) N))) (Sp.init N [(b : Int)]) k) (j + 1)).map (.int .i64)) := by
    rw [Sp.upTo_succ]; rw [Rg.rlxT hjl hfl htl (hbd2.2 _ hje.1).2, if_neg (by rw [Sp.ix_get hdt, Sp.ix_get hdf]; omega)]; exact HL
  refine Fw.roundEnd _ _ (by omega) ⟨j + 1, rfl, by omega, by rw [Sp.upTo_succ]; exact hbd2.rlx hTA hjl, Hn, HD, HL, HB, rfl⟩ (.cons rfl (.cons rfl (.cons rfl (.cons rfl (.cons rfl (.cons rfl .nil))))))
  rintro hq2
  refine Fw.q (Fw.val_pickT rfl rfl) rfl ?_
  refine Fw.q (Fw.val_move rfl) rfl ?_
  refine Fw.gFQ (d := 68) rfl rfl rfl rfl ?_
  refine Fw.gFQ (d := 68) rfl rfl rfl rfl ?_
  refine Fw.gFQ (d := 68) rfl rfl rfl rfl ?_
  refine Fw.gFQ (d := 68) rfl rfl rfl rfl ?_
  refine Fw.gFQ (d := 68) rfl rfl rfl rfl ?_
  refine Fw.gFQ (d := 68) rfl rfl rfl rfl ?_
  refine Fw.gFQ (d := 68) rfl rfl rfl rfl ?_
  refine Fw.gFQ (d := 68) rfl rfl rfl rfl ?_
  refine Fw.gFQ (d := 68) rfl rfl rfl rfl ?_
  refine Fw.gFQ (d := 68) rfl rfl rfl rfl ?_
  refine Fw.gFQ (d := 68) rfl rfl rfl rfl ?_
  refine Fw.gFQ (d := 68) rfl rfl rfl rfl ?_
  refine Fw.gFQ (d := 68) rfl rfl rfl rfl ?_
  refine Fw.q (Fw.val_pickF rfl rfl) rfl ?_
  refine Fw.q (Fw.val_move rfl) rfl ?_
  refine Fw.gFQ (d := 83) rfl rfl rfl rfl ?_
  refine Fw.gFQ (d := 83) rfl rfl rfl rfl ?_
  refine Fw.gFQ (d := 83) rfl rfl rfl rfl ?_
  refine Fw.gFQ (d := 83) rfl rfl rfl rfl ?_
  refine Fw.gFQ (d := 83) rfl rfl rfl rfl ?_
  refine Fw.gFQ (d := 83) rfl rfl rfl rfl ?_
  refine Fw.gFQ (d := 83) rfl rfl rfl rfl ?_
  refine Fw.gFQ (d := 83) rfl rfl rfl rfl ?_
  refine Fw.gFQ (d := 83) rfl rfl rfl rfl ?_
  refine Fw.gFQ (d := 83) rfl rfl rfl rfl ?_
  refine Fw.gFQ (d := 83) rfl rfl rfl rfl ?_
  refine Fw.gFQ (d := 83) rfl rfl rfl rfl ?_
  refine Fw.q (Fw.val_pickF rfl rfl) rfl ?_
  refine Fw.nilQ ?_
  intro w17 hb
  replace Hn := Hn.low hb
  replace HD := own_below HD hb (Nat.le_refl _)
  replace HL := own_below HL hb (Nat.le_refl _)
  replace He := He.low hb
  replace HC1 := (hb.cell (World.block_lt_of_cell? _ _ HC1)).trans HC1
  replace HB := HB.trans (hb.mono HB.size)
  clear hb
  refine hK32 _ _ (Fw.FC.sub (f' := [(96, _), (95, _), (94, _), (93, _), (92, _), (91, _), (90, _), (89, _), (88, _), (87, _), (86, _), (85, _), (84, _), (81, _), (80, _), (79, _), (78, _), (77, _), (76, _), (75, _), (74, _), (73, _), (72, _), (71, _), (70, _), (69, _), (66, _), (65, _), (64, _), (63, _), (62, _), (61, _), (60, _), (12, _), (11, _), (10, _), (8, _), (7, _), (3, _), (1, _)]) (.cons rfl (.cons rfl (.cons rfl (.cons rfl (.cons rfl (.cons rfl (.cons rfl (.cons rfl (.cons rfl (.cons rfl (.cons rfl (.cons rfl (.cons rfl (.cons rfl (.cons rfl (.cons rfl (.cons rfl (.cons rfl (.cons rfl (.cons rfl (.cons rfl (.cons rfl (.cons rfl (.cons rfl (.cons rfl (.cons rfl (.cons rfl (.cons rfl (.cons rfl (.cons rfl (.cons rfl (.cons rfl (.cons rfl (.cons rfl (.cons rfl (.cons rfl (.cons rfl (.cons rfl (.cons rfl (.cons rfl .nil)))))))))))))))))))))))))))))))))))))))) ?_)
  refine Fw.condF rfl ?_
  refine Fw.skip ?_
  refine Fw.X_blockN ?_
  refine hK28 _ _ ?_
  refine Fw.region ?_
  refine Fw.s (Fw.val_move rfl) rfl ?_
  refine Fw.s (Fw.val_bin rfl rfl (Fw.b_add (Fw.i64_ok (by omega)))) rfl ?_
  refine Fw.s (Fw.val_assign rfl) rfl ?_
  refine Fw.nil ?_
  replace HL : World.ownsRow w17 w.heap.size 2 1 (.slice (some ⟨gL, 0, none⟩) N N) N ((Sp.upTo (Sp.tightA (Rg.arcT N E ts false) (Sp.ix (Sp.rounds (Rg.arcT N E ts false) (Sp.init N [(b : Int)]) N))) (Sp.rounds (Sp.tightA (Rg.arcT N E ts false) (Sp.ix (Sp.rounds (Rg.arcT N E ts false) (Sp.init N [(b : Int)]) N))) (Sp.init N [(b : Int)]) k) (j + 1)).map (.int .i64)) := by
    rw [Sp.upTo_succ]; rw [Rg.rlxT hjl hfl htl (hbd2.2 _ hje.1).2, if_neg (by rw [Sp.ix_get hdt, Sp.ix_get hdf]; omega)]; exact HL
  refine Fw.roundEnd _ _ (by omega) ⟨j + 1, rfl, by omega, by rw [Sp.upTo_succ]; exact hbd2.rlx hTA hjl, Hn, HD, HL, HB, rfl⟩ (.cons rfl (.cons rfl (.cons rfl (.cons rfl (.cons rfl (.cons rfl .nil))))))
  rintro hq1
  refine Fw.q (Fw.val_move rfl) rfl ?_
  refine Fw.gFQ (d := 59) rfl rfl rfl rfl ?_
  refine Fw.gFQ (d := 59) rfl rfl rfl rfl ?_
  refine Fw.gFQ (d := 59) rfl rfl rfl rfl ?_
  refine Fw.gFQ (d := 59) rfl rfl rfl rfl ?_
  refine Fw.gFQ (d := 59) rfl rfl rfl rfl ?_
  refine Fw.gFQ (d := 59) rfl rfl rfl rfl ?_
  refine Fw.gFQ (d := 59) rfl rfl rfl rfl ?_
  refine Fw.q (Fw.val_pickF rfl rfl) rfl ?_
  refine Fw.q (Fw.val_move rfl) rfl ?_
  refine Fw.gFQ (d := 68) rfl rfl rfl rfl ?_
  refine Fw.gFQ (d := 68) rfl rfl rfl rfl ?_
  refine Fw.gFQ (d := 68) rfl rfl rfl rfl ?_
  refine Fw.gFQ (d := 68) rfl rfl rfl rfl ?_
  refine Fw.gFQ (d := 68) rfl rfl rfl rfl ?_
  refine Fw.gFQ (d := 68) rfl rfl rfl rfl ?_
  refine Fw.gFQ (d := 68) rfl rfl rfl rfl ?_
  refine Fw.gFQ (d := 68) rfl rfl rfl rfl ?_
  refine Fw.gFQ (d := 68) rfl rfl rfl rfl ?_
  refine Fw.gFQ (d := 68) rfl rfl rfl rfl ?_
  refine Fw.gFQ (d := 68) rfl rfl rfl rfl ?_
  refine Fw.gFQ (d := 68) rfl rfl rfl rfl ?_
  refine Fw.gFQ (d := 68) rfl rfl rfl rfl ?_
  refine Fw.q (Fw.val_pickF rfl rfl) rfl ?_
  refine Fw.q (Fw.val_move rfl) rfl ?_
  refine Fw.gFQ (d := 83) rfl rfl rfl rfl ?_
  refine Fw.gFQ (d := 83) rfl rfl rfl rfl ?_
  refine Fw.gFQ (d := 83) rfl rfl rfl rfl ?_
  refine Fw.gFQ (d := 83) rfl rfl rfl rfl ?_
  refine Fw.gFQ (d := 83) rfl rfl rfl rfl ?_
  refine Fw.gFQ (d := 83) rfl rfl rfl rfl ?_
  refine Fw.gFQ (d := 83) rfl rfl rfl rfl ?_
  refine Fw.gFQ (d := 83) rfl rfl rfl rfl ?_
  refine Fw.gFQ (d := 83) rfl rfl rfl rfl ?_
  refine Fw.gFQ (d := 83) rfl rfl rfl rfl ?_
  refine Fw.gFQ (d := 83) rfl rfl rfl rfl ?_
  refine Fw.gFQ (d := 83) rfl rfl rfl rfl ?_
  refine Fw.q (Fw.val_pickF rfl rfl) rfl ?_
  refine Fw.nilQ ?_
  intro w18 hb
  replace Hn := Hn.low hb
  replace HD := own_below HD hb (Nat.le_refl _)
  replace HL := own_below HL hb (Nat.le_refl _)
  replace He := He.low hb
  replace HB := HB.trans (hb.mono HB.size)
  clear hb
  refine hK32 _ _ (Fw.FC.sub (f' := [(96, _), (95, _), (94, _), (93, _), (92, _), (91, _), (90, _), (89, _), (88, _), (87, _), (86, _), (85, _), (84, _), (81, _), (80, _), (79, _), (78, _), (77, _), (76, _), (75, _), (74, _), (73, _), (72, _), (71, _), (70, _), (69, _), (66, _), (65, _), (64, _), (63, _), (62, _), (61, _), (60, _), (12, _), (11, _), (10, _), (8, _), (7, _), (3, _), (1, _)]) (.cons rfl (.cons rfl (.cons rfl (.cons rfl (.cons rfl (.cons rfl (.cons rfl (.cons rfl (.cons rfl (.cons rfl (.cons rfl (.cons rfl (.cons rfl (.cons rfl (.cons rfl (.cons rfl (.cons rfl (.cons rfl (.cons rfl (.cons rfl (.cons rfl (.cons rfl (.cons rfl (.cons rfl (.cons rfl (.cons rfl (.cons rfl (.cons rfl (.cons rfl (.cons rfl (.cons rfl (.cons rfl (.cons rfl (.cons rfl (.cons rfl (.cons rfl (.cons rfl (.cons rfl (.cons rfl (.cons rfl .nil)))))))))))))))))))))))))))))))))))))))) ?_)
  refine Fw.condF rfl ?_
  refine Fw.skip ?_
  refine Fw.X_blockN ?_
  refine hK28 _ _ ?_
  refine Fw.region ?_
  refine Fw.s (Fw.val_move rfl) rfl ?_
  refine Fw.s (Fw.val_bin rfl rfl (Fw.b_add (Fw.i64_ok (by omega)))) rfl ?_
  refine Fw.s (Fw.val_assign rfl) rfl ?_
  refine Fw.nil ?_
  replace HL : World.ownsRow w18 w.heap.size 2 1 (.slice (some ⟨gL, 0, none⟩) N N) N ((Sp.upTo (Sp.tightA (Rg.arcT N E ts false) (Sp.ix (Sp.rounds (Rg.arcT N E ts false) (Sp.init N [(b : Int)]) N))) (Sp.rounds (Sp.tightA (Rg.arcT N E ts false) (Sp.ix (Sp.rounds (Rg.arcT N E ts false) (Sp.init N [(b : Int)]) N))) (Sp.init N [(b : Int)]) k) (j + 1)).map (.int .i64)) := by
    rw [Sp.upTo_succ]; rw [Rg.rlxT hjl hfl htl (hbd2.2 _ hje.1).2, if_neg (by rw [Sp.ix_get hdt, Sp.ix_get hdf]; omega)]; exact HL
  refine Fw.roundEnd _ _ (by omega) ⟨j + 1, rfl, by omega, by rw [Sp.upTo_succ]; exact hbd2.rlx hTA hjl, Hn, HD, HL, HB, rfl⟩ (.cons rfl (.cons rfl (.cons rfl (.cons rfl (.cons rfl (.cons rfl .nil))))))
  rintro hj1
  refine Fw.nil ?_
  refine hK26 _ _ ?_
  refine Fw.condF rfl ?_
  refine Fw.exit ?_
  refine Fw.X_exit ?_
  refine Fw.X_exit ?_
  refine Fw.X_block ?_
  refine Fw.X_blockN ?_
  refine hK22 _ _ ?_
  refine Fw.region ?_
  refine Fw.s (Fw.val_move rfl) rfl ?_
  refine Fw.s (Fw.val_bin rfl rfl (Fw.b_add (Fw.i64_ok (by omega)))) rfl ?_
  refine Fw.s (Fw.val_assign rfl) rfl ?_
  refine Fw.nil ?_
  obtain rfl : j = E.length := by omega
  refine Fw.roundEnd _ _ (by omega) ⟨k + 1, rfl, by omega, hbd2, Hn, HD, HL, HB, rfl⟩ (.cons rfl (.cons rfl (.cons rfl (.cons rfl (.cons rfl .nil)))))
  rintro hk3
  refine Fw.nil ?_
  refine hK20 _ _ ?_
  refine Fw.condF rfl ?_
  refine Fw.exit ?_
  refine Fw.X_exit ?_
  refine Fw.X_exit ?_
  refine Fw.X_block ?_
  refine hK16 _ _ (Fw.FC.sub (f' := [(8, _)]) (.cons rfl .nil) ?_)
  refine Fw.seq fun _ hK45 => ?_
  refine Fw.region ?_
  refine Fw.s (Fw.val_move rfl) rfl ?_
  refine Fw.s (Fw.val_assign rfl) rfl ?_
  refine Fw.nil ?_
  refine hK45 _ _ ?_
  refine Fw.ret ?_
  refine Fw.ret_ [.tmp 6] [_] Try.results73 (.tmp rfl .nil) ?_
  obtain rfl : k = N := by omega
  exact ⟨_, _, rfl, HL, HB⟩

set_option maxRecDepth 100000 in
set_option maxHeartbeats 1000000 in
theorem wayNo_any (w : World) (N : Nat) (E : List Rg.Ed) (Ae : Option Addr) (ce : Nat) (At : Value) (a b : Int) (hab : ¬ ((0 ≤ a ∧ a < (N : Int)) ∧ (0 ≤ b ∧ b < (N : Int)))) : Calls Try.prog 64 #[.agg #[.int .i64 (N : Int), .slice Ae E.length ce], At, .int .i64 a, .int .i64 b] w fun e_ w' => e_ = .returned (.tuple #[.slice none 0 0, .int .i64 0, .bool false]) ∧ Below w.heap.size w w' := by
  refine Fw.calls Try.func64 rfl Try.ntmps64 rfl ?_
  have HB := Below.refl (w.heap.size) w
  refine Fw.seq fun _ hK1 => ?_
  refine Fw.region ?_
  refine Fw.box rfl rfl ?_
  intro w1 gn egn Hn hb
  have lgn : w.heap.size ≤ gn := by have := HB.size; omega
  replace HB := HB.trans (hb.mono HB.size)
  clear hb
  clear egn
  refine Fw.s (Fw.val_assign rfl) rfl ?_
  refine Fw.s (Fw.val_assign rfl) rfl ?_
  refine Fw.s (Fw.val_assign rfl) rfl ?_
  refine Fw.nil ?_
  refine hK1 _ _ ?_
  refine Fw.seq fun _ hK2 => ?_
  refine Fw.seq fun _ hK3 => ?_
  refine Fw.region ?_
  refine Fw.s (Fw.val_move rfl) rfl ?_
  refine Fw.s2 (Fw.val_bin rfl rfl Fw.b_lss) rfl ?_ ?_
  rintro hn1
  refine Fw.s (Fw.val_move rfl) rfl ?_
  refine Fw.gF (d := 21) rfl rfl rfl rfl ?_
  refine Fw.gF (d := 21) rfl rfl rfl rfl ?_
  refine Fw.gF (d := 21) rfl rfl rfl rfl ?_
  refine Fw.gF (d := 21) rfl rfl rfl rfl ?_
  refine Fw.s (Fw.val_pickT rfl rfl) rfl ?_
  refine Fw.s (Fw.val_move rfl) rfl ?_
  refine Fw.gF (d := 27) rfl rfl rfl rfl ?_
  refine Fw.gF (d := 27) rfl rfl rfl rfl ?_
  refine Fw.s (Fw.val_pickT rfl rfl) rfl ?_
  refine Fw.s (Fw.val_move rfl) rfl ?_
  refine Fw.gF (d := 31) rfl rfl rfl rfl ?_
  refine Fw.gF (d := 31) rfl rfl rfl rfl ?_
  refine Fw.gF (d := 31) rfl rfl rfl rfl ?_
  refine Fw.gF (d := 31) rfl rfl rfl rfl ?_
  refine Fw.s (Fw.val_pickT rfl rfl) rfl ?_
  refine Fw.nil ?_
  refine hK3 _ _ (Fw.FC.sub (f' := [(36, _), (4, _), (1, _), (2, _), (3, _)]) (.cons rfl (.cons rfl (.cons rfl (.cons rfl (.cons rfl .nil))))) ?_)
  refine Fw.condT rfl ?_
  refine Fw.seq fun _ hK5 => ?_
  refine Fw.region ?_
  refine Fw.s (Fw.val_assign rfl) rfl ?_
  refine Fw.s (Fw.val_assign rfl) rfl ?_
  refine Fw.s (Fw.val_assign rfl) rfl ?_
  refine Fw.nil ?_
  refine hK5 _ _ ?_
  refine Fw.ret ?_
  refine Fw.X_ret ?_
  refine Fw.ret_ [.tmp 8, .tmp 9, .tmp 10] [_, _, _] Try.results64 (.tmp rfl (.tmp rfl (.tmp rfl .nil))) ?_
  exact ⟨rfl, HB⟩
  rintro hn1
  refine Fw.s (Fw.val_move rfl) rfl ?_
  refine Fw.gT (d := 21) rfl rfl ?_
  refine Fw.s (Fw.val_move rfl) rfl ?_
  refine Fw.gT (d := 21) rfl rfl ?_
  refine Fw.s (Fw.val_fieldAddr fl24_0 rfl rfl) rfl ?_
  refine Fw.gT (d := 21) rfl rfl ?_
  refine Fw.ld sc3 rfl (Hn.cell 0) rfl ?_
  refine Fw.gT (d := 21) rfl rfl ?_
  refine Fw.s2 (Fw.val_bin rfl rfl Fw.b_geq) rfl ?_ ?_
  rintro hn2
  refine Fw.s (Fw.val_pickF rfl rfl) rfl ?_
  refine Fw.s (Fw.val_move rfl) rfl ?_
  refine Fw.gF (d := 27) rfl rfl rfl rfl ?_
  refine Fw.gF (d := 27) rfl rfl rfl rfl ?_
  refine Fw.s (Fw.val_pickT rfl rfl) rfl ?_
  refine Fw.s (Fw.val_move rfl) rfl ?_
  refine Fw.gF (d := 31) rfl rfl rfl rfl ?_
  refine Fw.gF (d := 31) rfl rfl rfl rfl ?_
  refine Fw.gF (d := 31) rfl rfl rfl rfl ?_
  refine Fw.gF (d := 31) rfl rfl rfl rfl ?_
  refine Fw.s (Fw.val_pickT rfl rfl) rfl ?_
  refine Fw.nil ?_
  refine hK3 _ _ (Fw.FC.sub (f' := [(36, _), (4, _), (1, _), (2, _), (3, _)]) (.cons rfl (.cons rfl (.cons rfl (.cons rfl (.cons rfl .nil))))) ?_)
  refine Fw.condT rfl ?_
  refine Fw.seq fun _ hK7 => ?_
  refine Fw.region ?_
  refine Fw.s (Fw.val_assign rfl) rfl ?_
  refine Fw.s (Fw.val_assign rfl) rfl ?_
  refine Fw.s (Fw.val_assign rfl) rfl ?_
  refine Fw.nil ?_
  refine hK7 _ _ ?_
  refine Fw.ret ?_
  refine Fw.X_ret ?_
  refine Fw.ret_ [.tmp 8, .tmp 9, .tmp 10] [_, _, _] Try.results64 (.tmp rfl (.tmp rfl (.tmp rfl .nil))) ?_
  exact ⟨rfl, HB⟩
  rintro hn2
  refine Fw.s (Fw.val_pickF rfl rfl) rfl ?_
  refine Fw.s (Fw.val_move rfl) rfl ?_
  refine Fw.gT (d := 27) rfl rfl ?_
  refine Fw.s (Fw.val_move rfl) rfl ?_
  refine Fw.gT (d := 27) rfl rfl ?_
  refine Fw.s2 (Fw.val_bin rfl rfl Fw.b_lss) rfl ?_ ?_
  rintro hn3
  refine Fw.s (Fw.val_pickF rfl rfl) rfl ?_
  refine Fw.s (Fw.val_move rfl) rfl ?_
  refine Fw.gF (d := 31) rfl rfl rfl rfl ?_
  refine Fw.gF (d := 31) rfl rfl rfl rfl ?_
  refine Fw.gF (d := 31) rfl rfl rfl rfl ?_
  refine Fw.gF (d := 31) rfl rfl rfl rfl ?_
  refine Fw.s (Fw.val_pickT rfl rfl) rfl ?_
  refine Fw.nil ?_
  refine hK3 _ _ (Fw.FC.sub (f' := [(36, _), (4, _), (1, _), (2, _), (3, _)]) (.cons rfl (.cons rfl (.cons rfl (.cons rfl (.cons rfl .nil))))) ?_)
  refine Fw.condT rfl ?_
  refine Fw.seq fun _ hK9 => ?_
  refine Fw.region ?_
  refine Fw.s (Fw.val_assign rfl) rfl ?_
  refine Fw.s (Fw.val_assign rfl) rfl ?_
  refine Fw.s (Fw.val_assign rfl) rfl ?_
  refine Fw.nil ?_
  refine hK9 _ _ ?_
  refine Fw.ret ?_
  refine Fw.X_ret ?_
  refine Fw.ret_ [.tmp 8, .tmp 9, .tmp 10] [_, _, _] Try.results64 (.tmp rfl (.tmp rfl (.tmp rfl .nil))) ?_
  exact ⟨rfl, HB⟩
  rintro hn3
  refine Fw.s (Fw.val_pickF rfl rfl) rfl ?_
  refine Fw.s (Fw.val_move rfl) rfl ?_
  refine Fw.gT (d := 31) rfl rfl ?_
  refine Fw.s (Fw.val_move rfl) rfl ?_
  refine Fw.gT (d := 31) rfl rfl ?_
  refine Fw.s (Fw.val_fieldAddr fl24_0 rfl rfl) rfl ?_
  refine Fw.gT (d := 31) rfl rfl ?_
  refine Fw.ld sc3 rfl (Hn.cell 0) rfl ?_
  refine Fw.gT (d := 31) rfl rfl ?_
  refine Fw.s (Fw.Val.T (Fw.val_bin rfl rfl Fw.b_geq) (by omega)) rfl ?_
  refine Fw.s (Fw.val_pickF rfl rfl) rfl ?_
  refine Fw.nil ?_
  refine hK3 _ _ (Fw.FC.sub (f' := [(36, _), (4, _), (1, _), (2, _), (3, _)]) (.cons rfl (.cons rfl (.cons rfl (.cons rfl (.cons rfl .nil))))) ?_)
  refine Fw.condT rfl ?_
  refine Fw.seq fun _ hK10 => ?_
  refine Fw.region ?_
  refine Fw.s (Fw.val_assign rfl) rfl ?_
  refine Fw.s (Fw.val_assign rfl) rfl ?_
  refine Fw.s (Fw.val_assign rfl) rfl ?_
  refine Fw.nil ?_
  refine hK10 _ _ ?_
  refine Fw.ret ?_
  refine Fw.X_ret ?_
  refine Fw.ret_ [.tmp 8, .tmp 9, .tmp 10] [_, _, _] Try.results64 (.tmp rfl (.tmp rfl (.tmp rfl .nil))) ?_
  exact ⟨rfl, HB⟩

set_option maxRecDepth 100000 in
set_option maxHeartbeats 2000000 in
theorem way_any (w : World) (N : Nat) (E : List Rg.Ed) (Ae : Option Addr) (ce : Nat) (hE : Rd w Ae (E.flatMap Rg.Ed.cells)) (hEO : Rg.EOk N E) (hEl : E.length ≤ 65536) (hN : N ≤ 12) (A : Option Addr) (ts : List Int) (c : Nat) (h : Rd w A (ts.map (.int .i64))) (a b : Nat) (ha : a < N) (hb : b < N) (D : Nat → Int) (hD : Sp.IsDist (Sp.star (Rg.arcT N E ts false)) 8589934593 (· = b) D) : Calls Try.prog 64 #[.agg #[.int .i64 (N : Int), .slice Ae E.length ce], .slice A ts.length c, .int .i64 (a : Int), .int .i64 (b : Int)] w fun e_ w' => ∃ A' c' l, e_ = .returned (.tuple #[.slice A' l.length c', .int .i64 (if D a = Sp.INF then 0 else Sp.dOf D a), .bool (decide (D a ≠ Sp.INF))]) ∧ w'.ownsRow w.heap.size 3 1 (.slice A' l.length c') l.length (Rg.ints l) ∧ (D a = Sp.INF → l = []) ∧ (D a ≠ Sp.INF → Sp.Trail (Rg.arcT N E ts false) D b a l) ∧ Below w.heap.size w w' := by
  have hA : Sp.Arcs.Ok (Rg.arcT N E ts false) 1048576 := Rg.arcT_ok ts false hEO
  have h8 : (1048576 : Int) * 8192 + 1 < Sp.INF := by decide
  have hN' : (Rg.arcT N E ts false).N ≤ 4096 := by show N ≤ 4096; omega
  have hTA : Sp.Arcs.Ok (Sp.tightA (Rg.arcT N E ts false) (Sp.ix (Sp.rounds (Rg.arcT N E ts false) (Sp.init N [(b : Int)]) N))) 1 := Sp.tightA_ok hA _
  have hdbd : Sp.Bd N (Sp.rounds (Rg.arcT N E ts false) (Sp.init N [(b : Int)]) N) := Sp.Bd.rounds hA (Sp.Bd.init N [(b : Int)]) N
  have hfbd : Sp.Bd N (Sp.rounds (Sp.tightA (Rg.arcT N E ts false) (Sp.ix (Sp.rounds (Rg.arcT N E ts false) (Sp.init N [(b : Int)]) N))) (Sp.init N [(b : Int)]) N) := Sp.Bd.rounds hTA (Sp.Bd.init N [(b : Int)]) N
  obtain ⟨hdl, hfl⟩ := Rg.refD hEO hN hb hD
  obtain ⟨dl, hdle⟩ : ∃ dl, dl = (Sp.rounds (Rg.arcT N E ts false) (Sp.init N [(b : Int)]) N) := ⟨_, rfl⟩
  obtain ⟨fl, hfle⟩ : ∃ fl, fl = (Sp.rounds (Sp.tightA (Rg.arcT N E ts false) (Sp.ix (Sp.rounds (Rg.arcT N E ts false) (Sp.init N [(b : Int)]) N))) (Sp.init N [(b : Int)]) N) := ⟨_, rfl⟩
  rw [← hdle] at hdl hdbd
  rw [← hfle] at hfl hfbd
  have hdn : dl.length = N := hdbd.1
  have hfn : fl.length = N := hfbd.1
  have had : a < dl.length := by omega
  have hfa : dl[a] < 4611686018427387904 ↔ D a ≠ Sp.INF := by have := Sp.fin_of hD hA h8 hN' hb (v := a) ha; rwa [← hdl a ha, Sp.ix_get had] at this
  refine Fw.calls Try.func64 rfl Try.ntmps64 rfl ?_
  have HB := Below.refl (w.heap.size) w
  refine Fw.seq fun _ hK1 => ?_
  refine Fw.region ?_
  refine Fw.box rfl rfl ?_
  intro w1 gn egn Hn hb
  have lgn : w.heap.size ≤ gn := by have := HB.size; omega
  replace HB := HB.trans (hb.mono HB.size)
  clear hb
  clear egn
  refine Fw.s (Fw.val_assign rfl) rfl ?_
  refine Fw.s (Fw.val_assign rfl) rfl ?_
  refine Fw.s (Fw.val_assign rfl) rfl ?_
  refine Fw.nil ?_
  refine hK1 _ _ ?_
  refine Fw.seq fun _ hK2 => ?_
  refine Fw.seq fun _ hK3 => ?_
  refine Fw.region ?_
  refine Fw.s (Fw.val_move rfl) rfl ?_
  refine Fw.s (Fw.Val.F (Fw.val_bin rfl rfl Fw.b_lss) (by omega)) rfl ?_
  refine Fw.s (Fw.val_move rfl) rfl ?_
  refine Fw.gT (d := 21) rfl rfl ?_
  refine Fw.s (Fw.val_move rfl) rfl ?_
  refine Fw.gT (d := 21) rfl rfl ?_
  refine Fw.s (Fw.val_fieldAddr fl24_0 rfl rfl) rfl ?_
  refine Fw.gT (d := 21) rfl rfl ?_
  refine Fw.ld sc3 rfl (Hn.cell 0) rfl ?_
  refine Fw.gT (d := 21) rfl rfl ?_
  refine Fw.s (Fw.Val.F (Fw.val_bin rfl rfl Fw.b_geq) (by omega)) rfl ?_
  refine Fw.s (Fw.val_pickF rfl rfl) rfl ?_
  refine Fw.s (Fw.val_move rfl) rfl ?_
  refine Fw.gT (d := 27) rfl rfl ?_
  refine Fw.s (Fw.val_move rfl) rfl ?_
  refine Fw.gT (d := 27) rfl rfl ?_
  refine Fw.s (Fw.Val.F (Fw.val_bin rfl rfl Fw.b_lss) (by omega)) rfl ?_
  refine Fw.s (Fw.val_pickF rfl rfl) rfl ?_
  refine Fw.s (Fw.val_move rfl) rfl ?_
  refine Fw.gT (d := 31) rfl rfl ?_
  refine Fw.s (Fw.val_move rfl) rfl ?_
  refine Fw.gT (d := 31) rfl rfl ?_
  refine Fw.s (Fw.val_fieldAddr fl24_0 rfl rfl) rfl ?_
  refine Fw.gT (d := 31) rfl rfl ?_
  refine Fw.ld sc3 rfl (Hn.cell 0) rfl ?_
  refine Fw.gT (d := 31) rfl rfl ?_
  refine Fw.s (Fw.Val.F (Fw.val_bin rfl rfl Fw.b_geq) (by omega)) rfl ?_
  refine Fw.s (Fw.val_pickF rfl rfl) rfl ?_
  refine Fw.nil ?_
  refine hK3 _ _ (Fw.FC.sub (f' := [(36, _), (4, _), (1, _), (2, _), (3, _)]) (.cons rfl (.cons rfl (.cons rfl (.cons rfl (.cons rfl .nil))))) ?_)
  refine Fw.condF rfl ?_
  refine Fw.skip ?_
  refine hK2 _ _ ?_
  refine Fw.seq fun _ hK4 => ?_
  refine Fw.region ?_
  refine Fw.ldA ag24 rfl (Fw.rdBlk Hn) rfl rfl ?_
  refine Fw.s (Fw.val_move rfl) rfl ?_
  refine Fw.s (Fw.val_move rfl) rfl ?_
  refine Fw.buildSlice [_] sl46 rfl rfl (by exact Fw.allSz rfl) (by decide) rfl ?_
  intro w2 gS40 egS40 HS40 hb
  have n_gn_gS40 : gn < gS40 := by have := Hn.lt; omega
  have lgS40 : w.heap.size ≤ gS40 := by have := HB.size; omega
  replace Hn := Hn.low hb
  replace HB := HB.trans (hb.mono HB.size)
  clear hb
  clear egS40
  refine Fw.call cf72 rfl rfl (refTo_any _ N E Ae ce (hE.low HB) hEO hEl hN A ts c (h.low HB) (some ⟨gS40, 0, none⟩) [(b : Int)] 1 (by simp) (show Rd _ _ [.int .i64 (b : Int)] from Fw.rdBlk HS40)) ?_
  rintro e_ w3 ⟨AD, cD, rfl, HD, hb⟩
  refine ⟨_, rfl, ?_⟩
  have hzB := HB.size
  replace Hn := Hn.low hb
  replace HS40 := HS40.low hb
  replace HB := HB.trans (hb.mono HB.size)
  clear hb
  have hzD := HB.size
  obtain ⟨gD, rfl, hgD, _⟩ := Fw.own_form0 HD (by omega)
  clear HS40
  replace HD := own_base (B := w.heap.size) HD hzB
  rw [← hdle] at HD
  refine Fw.s (Fw.val_assign rfl) rfl ?_
  refine Fw.nil ?_
  refine hK4 _ _ ?_
  refine Fw.seq fun _ hK5 => ?_
  refine Fw.seq fun _ hK6 => ?_
  refine Fw.regionQ (by kernel_rfl) (by kernel_rfl) ?_
  refine Fw.q (Fw.val_move rfl) rfl ?_
  refine Fw.q (Fw.val_move rfl) rfl ?_
  have HC0 := Rg.own_cell HD _ had
  refine Fw.q (Fw.val_indexR Try.underlying100 sz2 rfl rfl rfl rfl ha (by rw [Fw.add_flat, Nat.zero_add, Nat.mul_one])) rfl ?_
  refine Fw.ldQ sc2 rfl (HC0) rfl ?_
  refine Fw.callQ cf42 rfl rfl (fun w_ hb_ => never_any _) (fun _ _ _ h => ⟨h.1, h.2 ▸ Below.refl _ _⟩) ?_
  refine Fw.q2 (Fw.val_bin rfl rfl Fw.b_eql) rfl ?_ ?_
  rintro hq0
  refine Fw.nilQ ?_
  intro w4 hb
  clear HC0
  replace Hn := Hn.low hb
  replace HD := own_below HD hb (Nat.le_refl _)
  replace HB := HB.trans (hb.mono HB.size)
  clear hb
  refine hK6 _ _ (Fw.FC.sub (f' := [(47, _), (11, _), (4, _), (1, _), (2, _), (3, _)]) (.cons rfl (.cons rfl (.cons rfl (.cons rfl (.cons rfl (.cons rfl .nil)))))) ?_)
  refine Fw.condT rfl ?_
  refine Fw.seq fun _ hK9 => ?_
  refine Fw.region ?_
  refine Fw.s (Fw.val_assign rfl) rfl ?_
  refine Fw.s (Fw.val_assign rfl) rfl ?_
  refine Fw.s (Fw.val_assign rfl) rfl ?_
  refine Fw.nil ?_
  refine hK9 _ _ ?_
  refine Fw.ret ?_
  refine Fw.X_ret ?_
  refine Fw.ret_ [.tmp 8, .tmp 9, .tmp 10] [_, _, _] Try.results64 (.tmp rfl (.tmp rfl (.tmp rfl .nil))) ?_
  have hDa : D a = Sp.INF := Classical.byContradiction fun hh => by have := hfa.2 hh; omega
  exact ⟨none, 0, [], by rw [if_pos hDa, decide_eq_false (fun hh => hh hDa)]; rfl, ⟨rfl, .inl ⟨rfl, rfl⟩⟩, fun _ => rfl, fun hh => absurd hDa hh, HB⟩
  rintro hq0
  refine Fw.nilQ ?_
  intro w5 hb
  replace Hn := Hn.low hb
  replace HD := own_below HD hb (Nat.le_refl _)
  replace HC0 := (hb.cell (World.block_lt_of_cell? _ _ HC0)).trans HC0
  replace HB := HB.trans (hb.mono HB.size)
  clear hb
  refine hK6 _ _ (Fw.FC.sub (f' := [(47, _), (11, _), (4, _), (1, _), (2, _), (3, _)]) (.cons rfl (.cons rfl (.cons rfl (.cons rfl (.cons rfl (.cons rfl .nil)))))) ?_)
  refine Fw.condF rfl ?_
  refine Fw.skip ?_
  refine hK5 _ _ ?_
  refine Fw.seq fun _ hK10 => ?_
  have hb3 : dl[a] ≤ 4611686018427387904 := by have := (hdbd.2 _ ha).2; rw [Sp.ix_get had] at this; exact this
  refine Fw.region ?_
  refine Fw.ldA ag24 rfl (Fw.rdBlk Hn) rfl rfl ?_
  refine Fw.s (Fw.val_move rfl) rfl ?_
  refine Fw.s (Fw.val_move rfl) rfl ?_
  refine Fw.call cf73 rfl rfl (few_any _ N E Ae ce (hE.low HB) hEO hEl hN A ts c (h.low HB) b hb) ?_
  rintro e_ w6 ⟨AF, cF, rfl, HF, hb⟩
  refine ⟨_, rfl, ?_⟩
  have hzB := HB.size
  clear HC0
  replace Hn := Hn.low hb
  replace HD := own_below HD hb (Nat.le_refl _)
  replace HB := HB.trans (hb.mono HB.size)
  clear hb
  obtain ⟨gF, rfl, hgF, _⟩ := Fw.own_form0 HF (by omega)
  replace HF := own_base (B := w.heap.size) HF hzB
  rw [← hfle] at HF
  refine Fw.s (Fw.val_assign rfl) rfl ?_
  refine Fw.nil ?_
  refine hK10 _ _ ?_
  refine Fw.seq fun _ hK11 => ?_
  refine Fw.region ?_
  refine Fw.buildSlice [] sl46 rfl rfl (by exact Fw.allSz rfl) (by decide) rfl ?_
  intro w7 gS52 egS52 HS52 hb
  have n_gn_gS52 : gn < gS52 := by have := Hn.lt; omega
  have lgS52 : w.heap.size ≤ gS52 := by have := HB.size; omega
  replace Hn := Hn.low hb
  replace HD := own_below HD hb (Nat.le_refl _)
  replace HF := own_below HF hb (Nat.le_refl _)
  replace HB := HB.trans (hb.mono HB.size)
  clear hb
  clear egS52
  refine Fw.s (Fw.val_assign rfl) rfl ?_
  refine Fw.nil ?_
  refine hK11 _ _ ?_
  refine Fw.seq fun _ hK12 => ?_
  refine Fw.region ?_
  refine Fw.s (Fw.val_move rfl) rfl ?_
  refine Fw.s (Fw.val_assign rfl) rfl ?_
  refine Fw.nil ?_
  refine hK12 _ _ (Fw.FC.sub (f' := [(14, _), (13, _), (12, _), (11, _), (4, _), (1, _), (2, _), (3, _)]) (.cons rfl (.cons rfl (.cons rfl (.cons rfl (.cons rfl (.cons rfl (.cons rfl (.cons rfl .nil)))))))) ?_)
  refine Fw.seq fun _ hK13 => ?_
  refine Fw.block ?_
  have HO : w7.ownsRow w.heap.size 3 1 (.slice (some ⟨gS52, 0, none⟩) ([] : List Nat).length 0) ([] : List Nat).length (Rg.ints []) := Fw.own_blk HS52 lgS52 (by decide) rfl
  clear HS52
  refine Fw.loop (fun m_ f_ W_ => ∃ (v : Nat) (acc : List Nat) (A_ : Option Addr) (c_ : Nat), m_ = (D v).toNat ∧ v < N ∧ D v ≠ Sp.INF ∧ (∀ l, Sp.Trail (Rg.arcT N E ts false) D b v l → Sp.Trail (Rg.arcT N E ts false) D b a (acc ++ l)) ∧ (acc.length : Int) + Sp.fOf D v ≤ 12 ∧ Blk W_ gn 24 #[.int .i64 (N : Int), .slice Ae E.length ce] ∧ World.ownsRow W_ w.heap.size 2 1 (.slice (some ⟨gD, 0, none⟩) N cD) N (dl.map (.int .i64)) ∧ World.ownsRow W_ w.heap.size 2 1 (.slice (some ⟨gF, 0, none⟩) N cF) N (fl.map (.int .i64)) ∧ World.ownsRow W_ w.heap.size 3 1 (.slice A_ acc.length c_) acc.length (Rg.ints acc) ∧ Below (w.heap.size) w W_ ∧ f_ = [(14, .int .i64 (v : Int)), (13, .slice A_ acc.length c_), (12, .slice (some ⟨gF, 0, none⟩) N cF), (11, .slice (some ⟨gD, 0, none⟩) N cD), (4, .pointer (some ⟨gn, 0, none⟩)), (1, .slice A ts.length c), (2, .int .i64 (a : Int)), (3, .int .i64 (b : Int))]) ⟨_, _, ⟨a, [], some ⟨gS52, 0, none⟩, 0, rfl, ha, (fun e => hq0 (by rw [← Sp.ix_get had, hdl a ha, Sp.dOf_inf e])), (fun _ h => h), (by have : Sp.fOf D a < (N : Int) := (Sp.dig hA h8 hN' hb hD ha (fun e => hq0 (by rw [← Sp.ix_get had, hdl a ha, Sp.dOf_inf e]))).2.2.2.1; show (0 : Int) + _ ≤ 12; omega), Hn, HD, HF, HO, HB, rfl⟩, (.cons rfl (.cons rfl (.cons rfl (.cons rfl (.cons rfl (.cons rfl (.cons rfl (.cons rfl .nil))))))))⟩ ?_
  clear Hn HD HF HO HB
  rintro m14_ _ w8 ⟨v, acc, A_, c_, hm14_, hvN, hvf, htr, hal, Hn, HD, HF, HO, HB, rfl⟩
  refine Fw.seq fun _ hK15 => ?_
  refine Fw.seq fun _ hK16 => ?_
  refine Fw.region ?_
  refine Fw.s (Fw.val_move rfl) rfl ?_
  refine Fw.s (Fw.val_move rfl) rfl ?_
  refine Fw.s2 (Fw.val_bin rfl rfl Fw.b_neq) rfl ?_ ?_
  rintro hv1
  refine Fw.nil ?_
  refine hK16 _ _ ?_
  refine Fw.condT rfl ?_
  refine Fw.skip ?_
  refine hK15 _ _ ?_
  refine Fw.block ?_
  refine Fw.seq fun _ hK18 => ?_
  refine Fw.region ?_
  refine Fw.s (Fw.val_assign rfl) rfl ?_
  refine Fw.nil ?_
  refine hK18 _ _ ?_
  refine Fw.seq fun _ hK19 => ?_
  refine Fw.seq fun _ hK20 => ?_
  refine Fw.region ?_
  refine Fw.s (Fw.val_fieldAddr fl24_1 rfl rfl) rfl ?_
  refine Fw.ld sc22 rfl (Hn.cell 1) rfl ?_
  refine Fw.s (Fw.val_len Try.underlying22 rfl) rfl ?_
  refine Fw.s (Fw.val_bin rfl rfl (Fw.b_sub (Fw.i64_ok (by omega)))) rfl ?_
  refine Fw.s (Fw.val_assign rfl) rfl ?_
  refine Fw.nil ?_
  refine hK20 _ _ (Fw.FC.sub (f' := [(16, _), (15, _), (14, _), (13, _), (12, _), (11, _), (4, _), (1, _), (2, _), (3, _)]) (.cons rfl (.cons rfl (.cons rfl (.cons rfl (.cons rfl (.cons rfl (.cons rfl (.cons rfl (.cons rfl (.cons rfl .nil)))))))))) ?_)
  refine Fw.block ?_
  refine Fw.loop (fun m_ f_ W_ => ∃ (m : Nat) (nx : Int), m_ = m ∧ m ≤ E.length ∧ Sp.NX (Rg.arcT N E ts false) D v m nx ∧ Blk W_ gn 24 #[.int .i64 (N : Int), .slice Ae E.length ce] ∧ World.ownsRow W_ w.heap.size 2 1 (.slice (some ⟨gD, 0, none⟩) N cD) N (dl.map (.int .i64)) ∧ World.ownsRow W_ w.heap.size 2 1 (.slice (some ⟨gF, 0, none⟩) N cF) N (fl.map (.int .i64)) ∧ World.ownsRow W_ w.heap.size 3 1 (.slice A_ acc.length c_) acc.length (Rg.ints acc) ∧ Below (w.heap.size) w W_ ∧ f_ = [(16, .int .i64 ((m : Int) - 1)), (15, .int .i64 nx), (14, .int .i64 (v : Int)), (13, .slice A_ acc.length c_), (12, .slice (some ⟨gF, 0, none⟩) N cF), (11, .slice (some ⟨gD, 0, none⟩) N cD), (4, .pointer (some ⟨gn, 0, none⟩)), (1, .slice A ts.length c), (2, .int .i64 (a : Int)), (3, .int .i64 (b : Int))]) ⟨_, _, ⟨E.length, -1, rfl, Nat.le_refl _, Sp.NX.start _ _ _, Hn, HD, HF, HO, HB, rfl⟩, (.cons rfl (.cons rfl (.cons rfl (.cons rfl (.cons rfl (.cons rfl (.cons rfl (.cons rfl (.cons rfl (.cons rfl .nil))))))))))⟩ ?_
  clear Hn HD HF HO HB
  rintro m21_ _ w9 ⟨m, nx, hm21_, hmM, hnx, Hn, HD, HF, HO, HB, rfl⟩
  refine Fw.seq fun _ hK22 => ?_
  refine Fw.seq fun _ hK23 => ?_
  refine Fw.region ?_
  refine Fw.s (Fw.val_move rfl) rfl ?_
  refine Fw.s2 (Fw.val_bin rfl rfl Fw.b_geq) rfl ?_ ?_
  rintro hm1
  refine Fw.nil ?_
  refine hK23 _ _ ?_
  refine Fw.condT rfl ?_
  refine Fw.skip ?_
  refine hK22 _ _ ?_
  refine Fw.seq fun _ hK25 => ?_
  refine Fw.block ?_
  refine Fw.seq fun _ hK26 => ?_
  obtain ⟨j, rfl⟩ : ∃ j, m = j + 1 := ⟨m - 1, by omega⟩
  rw [show ((j + 1 : Nat) : Int) - 1 = (j : Int) by omega]
  have hjl : j < E.length := by omega
  obtain ⟨ae, be_, oe_, hAe, hadde, HEe⟩ := Fw.rdAt Rg.Ed.len (by decide) hE j hjl
  have hje := hEO _ (List.getElem_mem hjl)
  have hdt : E[j].t < dl.length := by omega
  have hdv : v < dl.length := by omega
  have hft : E[j].t < fl.length := by omega
  have hfv : v < fl.length := by omega
  have hb1 : 0 ≤ dl[E[j].t] ∧ dl[E[j].t] ≤ 4611686018427387904 := by have := hdbd.2 _ hje.2; rw [Sp.ix_get hdt] at this; exact this
  have hb2 : 0 ≤ fl[E[j].t] ∧ fl[E[j].t] ≤ 4611686018427387904 := by have := hfbd.2 _ hje.2; rw [Sp.ix_get hft] at this; exact this
  have htb : Rg.tt ts j = 4611686018427387904 ∨ (1 ≤ Rg.tt ts j ∧ Rg.tt ts j ≤ 1048576) := Rg.tt_bd ts j
  refine Fw.region ?_
  refine Fw.s (Fw.val_fieldAddr fl24_1 rfl rfl) rfl ?_
  refine Fw.ld sc22 rfl (Hn.cell 1) rfl ?_
  refine Fw.s (Fw.val_move rfl) rfl ?_
  refine Fw.s (Fw.val_indexR Try.underlying22 sz75 rfl hAe rfl rfl hjl hadde) rfl ?_
  refine Fw.ldA ag75 rfl ((HEe.low HB)) rfl rfl ?_
  refine Fw.alloc ze75 rfl ?_
  intro w10 ge ege He hb
  have n_gD_ge : gD < ge := by have := (HD.lt gD rfl).2; omega
  have n_gF_ge : gF < ge := by have := (HF.lt gF rfl).2; omega
  have n_gn_ge : gn < ge := by have := Hn.lt; omega
  have lge : w.heap.size ≤ ge := by have := HB.size; omega
  replace Hn := Hn.low hb
  replace HD := own_below HD hb (Nat.le_refl _)
  replace HF := own_below HF hb (Nat.le_refl _)
  replace HO := own_below HO hb (Nat.le_refl _)
  replace HB := HB.trans (hb.mono HB.size)
  clear hb
  clear ege
  refine Fw.storeW sz75 rfl rfl He rfl rfl (by exact Fw.oneCells rfl) ?_
  intro w11 N_ hc
  replace Hn := Hn.chg hc (by omega)
  replace HD := own_to HD hc (fun g_ h_ e_ => by injection h_ with h_; have h_ : gD = g_ := h_; have e_ : g_ = ge := e_; omega)
  replace HF := own_to HF hc (fun g_ h_ e_ => by injection h_ with h_; have h_ : gF = g_ := h_; have e_ : g_ = ge := e_; omega)
  replace HO := own_to HO hc (fun g_ h_ e_ => own_ne HO He (by decide) (by rw [h_, e_]))
  replace HB := HB.trans (hc.below (B := w.heap.size) (fun k e => by omega) HB.size)
  clear hc
  clear He
  have He := N_
  clear N_
  replace He : Blk w11 ge 75 #[.int .i64 (E[j].f : Int), .int .i64 (E[j].t : Int), .int .i64 E[j].m] := He
  refine Fw.nil ?_
  refine hK26 _ _ (Fw.FC.sub (f' := [(17, _), (16, _), (15, _), (14, _), (13, _), (12, _), (11, _), (4, _), (1, _), (2, _), (3, _)]) (.cons rfl (.cons rfl (.cons rfl (.cons rfl (.cons rfl (.cons rfl (.cons rfl (.cons rfl (.cons rfl (.cons rfl (.cons rfl .nil))))))))))) ?_)
  refine Fw.seq fun _ hK28 => ?_
  refine Fw.region ?_
  refine Fw.s (Fw.val_move rfl) rfl ?_
  refine Fw.s (Fw.val_move rfl) rfl ?_
  refine Fw.call cf74 rfl rfl (time_any _ A ts c (h.low HB) j) ?_
  rintro e_ _ ⟨rfl, rfl⟩
  refine ⟨_, rfl, ?_⟩
  refine Fw.s (Fw.val_assign rfl) rfl ?_
  refine Fw.nil ?_
  refine hK28 _ _ ?_
  refine Fw.seq fun _ hK29 => ?_
  refine Fw.regionQ (by kernel_rfl) (by kernel_rfl) ?_
  refine Fw.q (Fw.val_fieldAddr fl75_0 rfl rfl) rfl ?_
  refine Fw.ldQ sc3 rfl (He.cell 0) rfl ?_
  refine Fw.q (Fw.val_move rfl) rfl ?_
  refine Fw.q2 (Fw.val_bin rfl rfl Fw.b_eql) rfl ?_ ?_
  rintro hq1
  refine Fw.q (Fw.val_move rfl) rfl ?_
  refine Fw.gTQ (d := 77) rfl rfl ?_
  refine Fw.q (Fw.val_move rfl) rfl ?_
  refine Fw.gTQ (d := 77) rfl rfl ?_
  refine Fw.callQ cf42 rfl rfl (fun w_ hb_ => never_any _) (fun _ _ _ h => ⟨h.1, h.2 ▸ Below.refl _ _⟩) ?_
  refine Fw.gTQ (d := 77) rfl rfl ?_
  refine Fw.q2 (Fw.val_bin rfl rfl Fw.b_lss) rfl ?_ ?_
  rintro hq2
  refine Fw.q (Fw.val_pickT rfl rfl) rfl ?_
  refine Fw.q (Fw.val_move rfl) rfl ?_
  refine Fw.gTQ (d := 82) rfl rfl ?_
  refine Fw.q (Fw.val_move rfl) rfl ?_
  refine Fw.gTQ (d := 82) rfl rfl ?_
  refine Fw.q (Fw.val_fieldAddr fl75_1 rfl rfl) rfl ?_
  refine Fw.gTQ (d := 82) rfl rfl ?_
  refine Fw.ldQ sc3 rfl (He.cell 1) rfl ?_
  refine Fw.gTQ (d := 82) rfl rfl ?_
  have HC1 := Rg.own_cell HD _ hdt
  refine Fw.q (Fw.val_indexR Try.underlying100 sz2 rfl rfl rfl rfl hje.2 (by rw [Fw.add_flat, Nat.zero_add, Nat.mul_one])) rfl ?_
  refine Fw.gTQ (d := 82) rfl rfl ?_
  refine Fw.ldQ sc2 rfl (HC1) rfl ?_
  refine Fw.gTQ (d := 82) rfl rfl ?_
  refine Fw.callQ cf42 rfl rfl (fun w_ hb_ => never_any _) (fun _ _ _ h => ⟨h.1, h.2 ▸ Below.refl _ _⟩) ?_
  refine Fw.gTQ (d := 82) rfl rfl ?_
  refine Fw.q2 (Fw.val_bin rfl rfl Fw.b_lss) rfl ?_ ?_
  rintro hq3
  refine Fw.q (Fw.val_pickT rfl rfl) rfl ?_
  refine Fw.q (Fw.val_move rfl) rfl ?_
  refine Fw.gTQ (d := 91) rfl rfl ?_
  refine Fw.q (Fw.val_move rfl) rfl ?_
  refine Fw.gTQ (d := 91) rfl rfl ?_
  refine Fw.q (Fw.val_move rfl) rfl ?_
  refine Fw.gTQ (d := 91) rfl rfl ?_
  have HC2 := Rg.own_cell HD _ hdv
  refine Fw.q (Fw.val_indexR Try.underlying100 sz2 rfl rfl rfl rfl hvN (by rw [Fw.add_flat, Nat.zero_add, Nat.mul_one])) rfl ?_
  refine Fw.gTQ (d := 91) rfl rfl ?_
  refine Fw.ldQ sc2 rfl (HC2) rfl ?_
  refine Fw.gTQ (d := 91) rfl rfl ?_
  refine Fw.q (Fw.val_move rfl) rfl ?_
  refine Fw.gTQ (d := 91) rfl rfl ?_
  refine Fw.q (Fw.val_move rfl) rfl ?_
  refine Fw.gTQ (d := 91) rfl rfl ?_
  refine Fw.q (Fw.val_fieldAddr fl75_1 rfl rfl) rfl ?_
  refine Fw.gTQ (d := 91) rfl rfl ?_
  refine Fw.ldQ sc3 rfl (He.cell 1) rfl ?_
  refine Fw.gTQ (d := 91) rfl rfl ?_
  have HC1 := Rg.own_cell HD _ hdt
  refine Fw.q (Fw.val_indexR Try.underlying100 sz2 rfl rfl rfl rfl hje.2 (by rw [Fw.add_flat, Nat.zero_add, Nat.mul_one])) rfl ?_
  refine Fw.gTQ (d := 91) rfl rfl ?_
  refine Fw.ldQ sc2 rfl (HC1) rfl ?_
  refine Fw.gTQ (d := 91) rfl rfl ?_
  refine Fw.q (Fw.val_bin rfl rfl (Fw.b_add (Fw.i64_ok (by omega)))) rfl ?_
  refine Fw.gTQ (d := 91) rfl rfl ?_
  refine Fw.q2 (Fw.val_bin rfl rfl Fw.b_eql) rfl ?_ ?_
  rintro hq4
  refine Fw.q (Fw.val_pickT rfl rfl) rfl ?_
  refine Fw.q (Fw.val_move rfl) rfl ?_
  refine Fw.gTQ (d := 105) rfl rfl ?_
  refine Fw.q (Fw.val_move rfl) rfl ?_
  refine Fw.gTQ (d := 105) rfl rfl ?_
  refine Fw.q (Fw.val_move rfl) rfl ?_
  refine Fw.gTQ (d := 105) rfl rfl ?_
  have HC3 := Rg.own_cell HF _ hfv
  refine Fw.q (Fw.val_indexR Try.underlying100 sz2 rfl rfl rfl rfl hvN (by rw [Fw.add_flat, Nat.zero_add, Nat.mul_one])) rfl ?_
  refine Fw.gTQ (d := 105) rfl rfl ?_
  refine Fw.ldQ sc2 rfl (HC3) rfl ?_
  refine Fw.gTQ (d := 105) rfl rfl ?_
  refine Fw.q (Fw.val_move rfl) rfl ?_
  refine Fw.gTQ (d := 105) rfl rfl ?_
  refine Fw.q (Fw.val_fieldAddr fl75_1 rfl rfl) rfl ?_
  refine Fw.gTQ (d := 105) rfl rfl ?_
  refine Fw.ldQ sc3 rfl (He.cell 1) rfl ?_
  refine Fw.gTQ (d := 105) rfl rfl ?_
  have HC4 := Rg.own_cell HF _ hft
  refine Fw.q (Fw.val_indexR Try.underlying100 sz2 rfl rfl rfl rfl hje.2 (by rw [Fw.add_flat, Nat.zero_add, Nat.mul_one])) rfl ?_
  refine Fw.gTQ (d := 105) rfl rfl ?_
  refine Fw.ldQ sc2 rfl (HC4) rfl ?_
  refine Fw.gTQ (d := 105) rfl rfl ?_
  refine Fw.q (Fw.val_bin rfl rfl (Fw.b_add (Fw.i64_ok (by omega)))) rfl ?_
  refine Fw.gTQ (d := 105) rfl rfl ?_
  refine Fw.q2 (Fw.val_bin rfl rfl Fw.b_eql) rfl ?_ ?_
  rintro hq5
  refine Fw.q (Fw.val_pickT rfl rfl) rfl ?_
  refine Fw.nilQ ?_
  intro w12 hb
  replace Hn := Hn.low hb
  replace HD := own_below HD hb (Nat.le_refl _)
  replace HF := own_below HF hb (Nat.le_refl _)
  replace HO := own_below HO hb (Nat.le_refl _)
  replace He := He.low hb
  replace HC1 := (hb.cell (World.block_lt_of_cell? _ _ HC1)).trans HC1
  replace HC2 := (hb.cell (World.block_lt_of_cell? _ _ HC2)).trans HC2
  replace HC3 := (hb.cell (World.block_lt_of_cell? _ _ HC3)).trans HC3
  replace HC4 := (hb.cell (World.block_lt_of_cell? _ _ HC4)).trans HC4
  replace HB := HB.trans (hb.mono HB.size)
  clear hb
  refine hK29 _ _ (Fw.FC.sub (f' := [(117, _), (116, _), (115, _), (114, _), (113, _), (112, _), (111, _), (110, _), (109, _), (108, _), (107, _), (106, _), (103, _), (102, _), (101, _), (100, _), (99, _), (98, _), (97, _), (96, _), (95, _), (94, _), (93, _), (92, _), (89, _), (88, _), (87, _), (86, _), (85, _), (84, _), (83, _), (80, _), (79, _), (78, _), (16, _), (15, _), (14, _), (13, _), (12, _), (11, _), (4, _), (1, _), (2, _), (3, _)]) (.cons rfl (.cons rfl (.cons rfl (.cons rfl (.cons rfl (.cons rfl (.cons rfl (.cons rfl (.cons rfl (.cons rfl (.cons rfl (.cons rfl (.cons rfl (.cons rfl (.cons rfl (.cons rfl (.cons rfl (.cons rfl (.cons rfl (.cons rfl (.cons rfl (.cons rfl (.cons rfl (.cons rfl (.cons rfl (.cons rfl (.cons rfl (.cons rfl (.cons rfl (.cons rfl (.cons rfl (.cons rfl (.cons rfl (.cons rfl (.cons rfl (.cons rfl (.cons rfl (.cons rfl (.cons rfl (.cons rfl (.cons rfl (.cons rfl (.cons rfl (.cons rfl .nil)))))))))))))))))))))))))))))))))))))))))))) ?_)
  refine Fw.condT rfl ?_
  refine Fw.region ?_
  refine Fw.s (Fw.val_move rfl) rfl ?_
  refine Fw.s (Fw.val_assign rfl) rfl ?_
  refine Fw.nil ?_
  refine Fw.X_blockN ?_
  refine hK25 _ _ ?_
  refine Fw.region ?_
  refine Fw.s (Fw.val_move rfl) rfl ?_
  refine Fw.s (Fw.val_bin rfl rfl (Fw.b_sub (Fw.i64_ok (by omega)))) rfl ?_
  refine Fw.s (Fw.val_assign rfl) rfl ?_
  refine Fw.nil ?_
  refine Fw.roundEnd _ _ (by omega) ⟨j, j, rfl, by omega, Sp.NX.yes ((Rg.next_iff hEO hN hb hD hdl hfl hvN hvf hjl).2 ⟨hq1, hq2, by rw [Sp.ix_get hdt]; exact hq3, by rw [Sp.ix_get hdt, Sp.ix_get hdv]; exact hq4, by rw [Sp.ix_get hft, Sp.ix_get hfv]; exact hq5⟩), Hn, HD, HF, HO, HB, rfl⟩ (.cons rfl (.cons rfl (.cons rfl (.cons rfl (.cons rfl (.cons rfl (.cons rfl (.cons rfl (.cons rfl (.cons rfl .nil))))))))))
  rintro hq5
  refine Fw.q (Fw.val_pickT rfl rfl) rfl ?_
  refine Fw.nilQ ?_
  intro w13 hb
  replace Hn := Hn.low hb
  replace HD := own_below HD hb (Nat.le_refl _)
  replace HF := own_below HF hb (Nat.le_refl _)
  replace HO := own_below HO hb (Nat.le_refl _)
  replace He := He.low hb
  replace HC1 := (hb.cell (World.block_lt_of_cell? _ _ HC1)).trans HC1
  replace HC2 := (hb.cell (World.block_lt_of_cell? _ _ HC2)).trans HC2
  replace HC3 := (hb.cell (World.block_lt_of_cell? _ _ HC3)).trans HC3
  replace HC4 := (hb.cell (World.block_lt_of_cell? _ _ HC4)).trans HC4
  replace HB := HB.trans (hb.mono HB.size)
  clear hb
  refine hK29 _ _ (Fw.FC.sub (f' := [(117, _), (116, _), (115, _), (114, _), (113, _), (112, _), (111, _), (110, _), (109, _), (108, _), (107, _), (106, _), (103, _), (102, _), (101, _), (100, _), (99, _), (98, _), (97, _), (96, _), (95, _), (94, _), (93, _), (92, _), (89, _), (88, _), (87, _), (86, _), (85, _), (84, _), (83, _), (80, _), (79, _), (78, _), (16, _), (15, _), (14, _), (13, _), (12, _), (11, _), (4, _), (1, _), (2, _), (3, _)]) (.cons rfl (.cons rfl (.cons rfl (.cons rfl (.cons rfl (.cons rfl (.cons rfl (.cons rfl (.cons rfl (.cons rfl (.cons rfl (.cons rfl (.cons rfl (.cons rfl (.cons rfl (.cons rfl (.cons rfl (.cons rfl (.cons rfl (.cons rfl (.cons rfl (.cons rfl (.cons rfl (.cons rfl (.cons rfl (.cons rfl (.cons rfl (.cons rfl (.cons rfl (.cons rfl (.cons rfl (.cons rfl (.cons rfl (.cons rfl (.cons rfl (.cons rfl (.cons rfl (.cons rfl (.cons rfl (.cons rfl (.cons rfl (.cons rfl (.cons rfl (.cons rfl .nil)))))))))))))))))))))))))))))))))))))))))))) ?_)
  refine Fw.condF rfl ?_
  refine Fw.skip ?_
  refine Fw.X_blockN ?_
  refine hK25 _ _ ?_
  refine Fw.region ?_
  refine Fw.s (Fw.val_move rfl) rfl ?_
  refine Fw.s (Fw.val_bin rfl rfl (Fw.b_sub (Fw.i64_ok (by omega)))) rfl ?_
  refine Fw.s (Fw.val_assign rfl) rfl ?_
  refine Fw.nil ?_
  refine Fw.roundEnd _ _ (by omega) ⟨j, nx, rfl, by omega, hnx.no (fun hc => by have := (Rg.next_iff hEO hN hb hD hdl hfl hvN hvf hjl).1 hc; rw [Sp.ix_get hdt, Sp.ix_get hdv, Sp.ix_get hft, Sp.ix_get hfv] at this; omega), Hn, HD, HF, HO, HB, rfl⟩ (.cons rfl (.cons rfl (.cons rfl (.cons rfl (.cons rfl (.cons rfl (.cons rfl (.cons rfl (.cons rfl (.cons rfl .nil))))))))))
  rintro hq4
  refine Fw.q (Fw.val_pickT rfl rfl) rfl ?_
  refine Fw.q (Fw.val_move rfl) rfl ?_
  refine Fw.gFQ (d := 105) rfl rfl rfl rfl ?_
  refine Fw.gFQ (d := 105) rfl rfl rfl rfl ?_
  refine Fw.gFQ (d := 105) rfl rfl rfl rfl ?_
  refine Fw.gFQ (d := 105) rfl rfl rfl rfl ?_
  refine Fw.gFQ (d := 105) rfl rfl rfl rfl ?_
  refine Fw.gFQ (d := 105) rfl rfl rfl rfl ?_
  refine Fw.gFQ (d := 105) rfl rfl rfl rfl ?_
  refine Fw.gFQ (d := 105) rfl rfl rfl rfl ?_
  refine Fw.gFQ (d := 105) rfl rfl rfl rfl ?_
  refine Fw.gFQ (d := 105) rfl rfl rfl rfl ?_
  refine Fw.gFQ (d := 105) rfl rfl rfl rfl ?_
  refine Fw.q (Fw.val_pickF rfl rfl) rfl ?_
  refine Fw.nilQ ?_
  intro w14 hb
  replace Hn := Hn.low hb
  replace HD := own_below HD hb (Nat.le_refl _)
  replace HF := own_below HF hb (Nat.le_refl _)
  replace HO := own_below HO hb (Nat.le_refl _)
  replace He := He.low hb
  replace HC1 := (hb.cell (World.block_lt_of_cell? _ _ HC1)).trans HC1
  replace HC2 := (hb.cell (World.block_lt_of_cell? _ _ HC2)).trans HC2
  replace HB := HB.trans (hb.mono HB.size)
  clear hb
  refine hK29 _ _ (Fw.FC.sub (f' := [(117, _), (116, _), (115, _), (114, _), (113, _), (112, _), (111, _), (110, _), (109, _), (108, _), (107, _), (106, _), (103, _), (102, _), (101, _), (100, _), (99, _), (98, _), (97, _), (96, _), (95, _), (94, _), (93, _), (92, _), (89, _), (88, _), (87, _), (86, _), (85, _), (84, _), (83, _), (80, _), (79, _), (78, _), (16, _), (15, _), (14, _), (13, _), (12, _), (11, _), (4, _), (1, _), (2, _), (3, _)]) (.cons rfl (.cons rfl (.cons rfl (.cons rfl (.cons rfl (.cons rfl (.cons rfl (.cons rfl (.cons rfl (.cons rfl (.cons rfl (.cons rfl (.cons rfl (.cons rfl (.cons rfl (.cons rfl (.cons rfl (.cons rfl (.cons rfl (.cons rfl (.cons rfl (.cons rfl (.cons rfl (.cons rfl (.cons rfl (.cons rfl (.cons rfl (.cons rfl (.cons rfl (.cons rfl (.cons rfl (.cons rfl (.cons rfl (.cons rfl (.cons rfl (.cons rfl (.cons rfl (.cons rfl (.cons rfl (.cons rfl (.cons rfl (.cons rfl (.cons rfl (.cons rfl .nil)))))))))))))))))))))))))))))))))))))))))))) ?_)
  refine Fw.condF rfl ?_
  refine Fw.skip ?_
  refine Fw.X_blockN ?_
  refine hK25 _ _ ?_
  refine Fw.region ?_
  refine Fw.s (Fw.val_move rfl) rfl ?_
  refine Fw.s (Fw.val_bin rfl rfl (Fw.b_sub (Fw.i64_ok (by omega)))) rfl ?_
  refine Fw.s (Fw.val_assign rfl) rfl ?_
  refine Fw.nil ?_
  refine Fw.roundEnd _ _ (by omega) ⟨j, nx, rfl, by omega, hnx.no (fun hc => by have := (Rg.next_iff hEO hN hb hD hdl hfl hvN hvf hjl).1 hc; rw [Sp.ix_get hdt, Sp.ix_get hdv, Sp.ix_get hft, Sp.ix_get hfv] at this; omega), Hn, HD, HF, HO, HB, rfl⟩ (.cons rfl (.cons rfl (.cons rfl (.cons rfl (.cons rfl (.cons rfl (.cons rfl (.cons rfl (.cons rfl (.cons rfl .nil))))))))))
  rintro hq3
  refine Fw.q (Fw.val_pickT rfl rfl) rfl ?_
  refine Fw.q (Fw.val_move rfl) rfl ?_
  refine Fw.gFQ (d := 91) rfl rfl rfl rfl ?_
  refine Fw.gFQ (d := 91) rfl rfl rfl rfl ?_
  refine Fw.gFQ (d := 91) rfl rfl rfl rfl ?_
  refine Fw.gFQ (d := 91) rfl rfl rfl rfl ?_
  refine Fw.gFQ (d := 91) rfl rfl rfl rfl ?_
  refine Fw.gFQ (d := 91) rfl rfl rfl rfl ?_
  refine Fw.gFQ (d := 91) rfl rfl rfl rfl ?_
  refine Fw.gFQ (d := 91) rfl rfl rfl rfl ?_
  refine Fw.gFQ (d := 91) rfl rfl rfl rfl ?_
  refine Fw.gFQ (d := 91) rfl rfl rfl rfl ?_
  refine Fw.gFQ (d := 91) rfl rfl rfl rfl ?_
  refine Fw.gFQ (d := 91) rfl rfl rfl rfl ?_
  refine Fw.q (Fw.val_pickF rfl rfl) rfl ?_
  refine Fw.q (Fw.val_move rfl) rfl ?_
  refine Fw.gFQ (d := 105) rfl rfl rfl rfl ?_
  refine Fw.gFQ (d := 105) rfl rfl rfl rfl ?_
  refine Fw.gFQ (d := 105) rfl rfl rfl rfl ?_
  refine Fw.gFQ (d := 105) rfl rfl rfl rfl ?_
  refine Fw.gFQ (d := 105) rfl rfl rfl rfl ?_
  refine Fw.gFQ (d := 105) rfl rfl rfl rfl ?_
  refine Fw.gFQ (d := 105) rfl rfl rfl rfl ?_
  refine Fw.gFQ (d := 105) rfl rfl rfl rfl ?_
  refine Fw.gFQ (d := 105) rfl rfl rfl rfl ?_
  refine Fw.gFQ (d := 105) rfl rfl rfl rfl ?_
  refine Fw.gFQ (d := 105) rfl rfl rfl rfl ?_
  refine Fw.q (Fw.val_pickF rfl rfl) rfl ?_
  refine Fw.nilQ ?_
  intro w15 hb
  replace Hn := Hn.low hb
  replace HD := own_below HD hb (Nat.le_refl _)
  replace HF := own_below HF hb (Nat.le_refl _)
  replace HO := own_below HO hb (Nat.le_refl _)
  replace He := He.low hb
  replace HC1 := (hb.cell (World.block_lt_of_cell? _ _ HC1)).trans HC1
  replace HB := HB.trans (hb.mono HB.size)
  clear hb
  refine hK29 _ _ (Fw.FC.sub (f' := [(117, _), (116, _), (115, _), (114, _), (113, _), (112, _), (111, _), (110, _), (109, _), (108, _), (107, _), (106, _), (103, _), (102, _), (101, _), (100, _), (99, _), (98, _), (97, _), (96, _), (95, _), (94, _), (93, _), (92, _), (89, _), (88, _), (87, _), (86, _), (85, _), (84, _), (83, _), (80, _), (79, _), (78, _), (16, _), (15, _), (14, _), (13, _), (12, _), (11, _), (4, _), (1, _), (2, _), (3, _)]) (.cons rfl (.cons rfl (.cons rfl (.cons rfl (.cons rfl (.cons rfl (.cons rfl (.cons rfl (.cons rfl (.cons rfl (.cons rfl (.cons rfl (.cons rfl (.cons rfl (.cons rfl (.cons rfl (.cons rfl (.cons rfl (.cons rfl (.cons rfl (.cons rfl (.cons rfl (.cons rfl (.cons rfl (.cons rfl (.cons rfl (.cons rfl (.cons rfl (.cons rfl (.cons rfl (.cons rfl (.cons rfl (.cons rfl (.cons rfl (.cons rfl (.cons rfl (.cons rfl (.cons rfl (.cons rfl (.cons rfl (.cons rfl (.cons rfl (.cons rfl (.cons rfl .nil)))))))))))))))))))))))))))))))))))))))))))) ?_)
  refine Fw.condF rfl ?_
  refine Fw.skip ?_
  refine Fw.X_blockN ?_
  refine hK25 _ _ ?_
  refine Fw.region ?_
  refine Fw.s (Fw.val_move rfl) rfl ?_
  refine Fw.s (Fw.val_bin rfl rfl (Fw.b_sub (Fw.i64_ok (by omega)))) rfl ?_
  refine Fw.s (Fw.val_assign rfl) rfl ?_
  refine Fw.nil ?_
  refine Fw.roundEnd _ _ (by omega) ⟨j, nx, rfl, by omega, hnx.no (fun hc => by have := (Rg.next_iff hEO hN hb hD hdl hfl hvN hvf hjl).1 hc; rw [Sp.ix_get hdt, Sp.ix_get hdv, Sp.ix_get hft, Sp.ix_get hfv] at this; omega), Hn, HD, HF, HO, HB, rfl⟩ (.cons rfl (.cons rfl (.cons rfl (.cons rfl (.cons rfl (.cons rfl (.cons rfl (.cons rfl (.cons rfl (.cons rfl .nil))))))))))
  rintro hq2
  refine Fw.q (Fw.val_pickT rfl rfl) rfl ?_
  refine Fw.q (Fw.val_move rfl) rfl ?_
  refine Fw.gFQ (d := 82) rfl rfl rfl rfl ?_
  refine Fw.gFQ (d := 82) rfl rfl rfl rfl ?_
  refine Fw.gFQ (d := 82) rfl rfl rfl rfl ?_
  refine Fw.gFQ (d := 82) rfl rfl rfl rfl ?_
  refine Fw.gFQ (d := 82) rfl rfl rfl rfl ?_
  refine Fw.gFQ (d := 82) rfl rfl rfl rfl ?_
  refine Fw.gFQ (d := 82) rfl rfl rfl rfl ?_
  refine Fw.q (Fw.val_pickF rfl rfl) rfl ?_
  refine Fw.q (Fw.val_move rfl) rfl ?_
  refine Fw.gFQ (d := 91) rfl rfl rfl rfl ?_
  refine Fw.gFQ (d := 91) rfl rfl rfl rfl ?_
  refine Fw.gFQ (d := 91) rfl rfl rfl rfl ?_
  refine Fw.gFQ (d := 91) rfl rfl rfl rfl ?_
  refine Fw.gFQ (d := 91) rfl rfl rfl rfl ?_
  refine Fw.gFQ (d := 91) rfl rfl rfl rfl ?_
  refine Fw.gFQ (d := 91) rfl rfl rfl rfl ?_
  refine Fw.gFQ (d := 91) rfl rfl rfl rfl ?_
  refine Fw.gFQ (d := 91) rfl rfl rfl rfl ?_
  refine Fw.gFQ (d := 91) rfl rfl rfl rfl ?_
  refine Fw.gFQ (d := 91) rfl rfl rfl rfl ?_
  refine Fw.gFQ (d := 91) rfl rfl rfl rfl ?_
  refine Fw.q (Fw.val_pickF rfl rfl) rfl ?_
  refine Fw.q (Fw.val_move rfl) rfl ?_
  refine Fw.gFQ (d := 105) rfl rfl rfl rfl ?_
  refine Fw.gFQ (d := 105) rfl rfl rfl rfl ?_
  refine Fw.gFQ (d := 105) rfl rfl rfl rfl ?_
  refine Fw.gFQ (d := 105) rfl rfl rfl rfl ?_
  refine Fw.gFQ (d := 105) rfl rfl rfl rfl ?_
  refine Fw.gFQ (d := 105) rfl rfl rfl rfl ?_
  refine Fw.gFQ (d := 105) rfl rfl rfl rfl ?_
  refine Fw.gFQ (d := 105) rfl rfl rfl rfl ?_
  refine Fw.gFQ (d := 105) rfl rfl rfl rfl ?_
  refine Fw.gFQ (d := 105) rfl rfl rfl rfl ?_
  refine Fw.gFQ (d := 105) rfl rfl rfl rfl ?_
  refine Fw.q (Fw.val_pickF rfl rfl) rfl ?_
  refine Fw.nilQ ?_
  intro w16 hb
  replace Hn := Hn.low hb
  replace HD := own_below HD hb (Nat.le_refl _)
  replace HF := own_below HF hb (Nat.le_refl _)
  replace HO := own_below HO hb (Nat.le_refl _)
  replace He := He.low hb
  replace HB := HB.trans (hb.mono HB.size)
  clear hb
  refine hK29 _ _ (Fw.FC.sub (f' := [(117, _), (116, _), (115, _), (114, _), (113, _), (112, _), (111, _), (110, _), (109, _), (108, _), (107, _), (106, _), (103, _), (102, _), (101, _), (100, _), (99, _), (98, _), (97, _), (96, _), (95, _), (94, _), (93, _), (92, _), (89, _), (88, _), (87, _), (86, _), (85, _), (84, _), (83, _), (80, _), (79, _), (78, _), (16, _), (15, _), (14, _), (13, _), (12, _), (11, _), (4, _), (1, _), (2, _), (3, _)]) (.cons rfl (.cons rfl (.cons rfl (.cons rfl (.cons rfl (.cons rfl (.cons rfl (.cons rfl (.cons rfl (.cons rfl (.cons rfl (.cons rfl (.cons rfl (.cons rfl (.cons rfl (.cons rfl (.cons rfl (.cons rfl (.cons rfl (.cons rfl (.cons rfl (.cons rfl (.cons rfl (.cons rfl (.cons rfl (.cons rfl (.cons rfl (.cons rfl (.cons rfl (.cons rfl (.cons rfl (.cons rfl (.cons rfl (.cons rfl (.cons rfl (.cons rfl (.cons rfl (.cons rfl (.cons rfl (.cons rfl (.cons rfl (.cons rfl (.cons rfl (.cons rfl .nil)))))))))))))))))))))))))))))))))))))))))))) ?_)
  refine Fw.condF rfl ?_
  refine Fw.skip ?_
  refine Fw.X_blockN ?_
  refine hK25 _ _ ?_
  refine Fw.region ?_
  refine Fw.s (Fw.val_move rfl) rfl ?_
  refine Fw.s (Fw.val_bin rfl rfl (Fw.b_sub (Fw.i64_ok (by omega)))) rfl ?_
  refine Fw.s (Fw.val_assign rfl) rfl ?_
  refine Fw.nil ?_
  refine Fw.roundEnd _ _ (by omega) ⟨j, nx, rfl, by omega, hnx.no (fun hc => by have := (Rg.next_iff hEO hN hb hD hdl hfl hvN hvf hjl).1 hc; rw [Sp.ix_get hdt, Sp.ix_get hdv, Sp.ix_get hft, Sp.ix_get hfv] at this; omega), Hn, HD, HF, HO, HB, rfl⟩ (.cons rfl (.cons rfl (.cons rfl (.cons rfl (.cons rfl (.cons rfl (.cons rfl (.cons rfl (.cons rfl (.cons rfl .nil))))))))))
  rintro hq1
  refine Fw.q (Fw.val_move rfl) rfl ?_
  refine Fw.gFQ (d := 77) rfl rfl rfl rfl ?_
  refine Fw.gFQ (d := 77) rfl rfl rfl rfl ?_
  refine Fw.gFQ (d := 77) rfl rfl rfl rfl ?_
  refine Fw.q (Fw.val_pickF rfl rfl) rfl ?_
  refine Fw.q (Fw.val_move rfl) rfl ?_
  refine Fw.gFQ (d := 82) rfl rfl rfl rfl ?_
  refine Fw.gFQ (d := 82) rfl rfl rfl rfl ?_
  refine Fw.gFQ (d := 82) rfl rfl rfl rfl ?_
  refine Fw.gFQ (d := 82) rfl rfl rfl rfl ?_
  refine Fw.gFQ (d := 82) rfl rfl rfl rfl ?_
  refine Fw.gFQ (d := 82) rfl rfl rfl rfl ?_
  refine Fw.gFQ (d := 82) rfl rfl rfl rfl ?_
  refine Fw.q (Fw.val_pickF rfl rfl) rfl ?_
  refine Fw.q (Fw.val_move rfl) rfl ?_
  refine Fw.gFQ (d := 91) rfl rfl rfl rfl ?_
  refine Fw.gFQ (d := 91) rfl rfl rfl rfl ?_
  refine Fw.gFQ (d := 91) rfl rfl rfl rfl ?_
  refine Fw.gFQ (d := 91) rfl rfl rfl rfl ?_
  refine Fw.gFQ (d := 91) rfl rfl rfl rfl ?_
  refine Fw.gFQ (d := 91) rfl rfl rfl rfl ?_
  refine Fw.gFQ (d := 91) rfl rfl rfl rfl ?_
  refine Fw.gFQ (d := 91) rfl rfl rfl rfl ?_
  refine Fw.gFQ (d := 91) rfl rfl rfl rfl ?_
  refine Fw.gFQ (d := 91) rfl rfl rfl rfl ?_
  refine Fw.gFQ (d := 91) rfl rfl rfl rfl ?_
  refine Fw.gFQ (d := 91) rfl rfl rfl rfl ?_
  refine Fw.q (Fw.val_pickF rfl rfl) rfl ?_
  refine Fw.q (Fw.val_move rfl) rfl ?_
  refine Fw.gFQ (d := 105) rfl rfl rfl rfl ?_
  refine Fw.gFQ (d := 105) rfl rfl rfl rfl ?_
  refine Fw.gFQ (d := 105) rfl rfl rfl rfl ?_
  refine Fw.gFQ (d := 105) rfl rfl rfl rfl ?_
  refine Fw.gFQ (d := 105) rfl rfl rfl rfl ?_
  refine Fw.gFQ (d := 105) rfl rfl rfl rfl ?_
  refine Fw.gFQ (d := 105) rfl rfl rfl rfl ?_
  refine Fw.gFQ (d := 105) rfl rfl rfl rfl ?_
  refine Fw.gFQ (d := 105) rfl rfl rfl rfl ?_
  refine Fw.gFQ (d := 105) rfl rfl rfl rfl ?_
  refine Fw.gFQ (d := 105) rfl rfl rfl rfl ?_
  refine Fw.q (Fw.val_pickF rfl rfl) rfl ?_
  refine Fw.nilQ ?_
  intro w17 hb
  replace Hn := Hn.low hb
  replace HD := own_below HD hb (Nat.le_refl _)
  replace HF := own_below HF hb (Nat.le_refl _)
  replace HO := own_below HO hb (Nat.le_refl _)
  replace He := He.low hb
  replace HB := HB.trans (hb.mono HB.size)
  clear hb
  refine hK29 _ _ (Fw.FC.sub (f' := [(117, _), (116, _), (115, _), (114, _), (113, _), (112, _), (111, _), (110, _), (109, _), (108, _), (107, _), (106, _), (103, _), (102, _), (101, _), (100, _), (99, _), (98, _), (97, _), (96, _), (95, _), (94, _), (93, _), (92, _), (89, _), (88, _), (87, _), (86, _), (85, _), (84, _), (83, _), (80, _), (79, _), (78, _), (16, _), (15, _), (14, _), (13, _), (12, _), (11, _), (4, _), (1, _), (2, _), (3, _)]) (.cons rfl (.cons rfl (.cons rfl (.cons rfl (.cons rfl (.cons rfl (.cons rfl (.cons rfl (.cons rfl (.cons rfl (.cons rfl (.cons rfl (.cons rfl (.cons rfl (.cons rfl (.cons rfl (.cons rfl (.cons rfl (.cons rfl (.cons rfl (.cons rfl (.cons rfl (.cons rfl (.cons rfl (.cons rfl (.cons rfl (.cons rfl (.cons rfl (.cons rfl (.cons rfl (.cons rfl (.cons rfl (.cons rfl (.cons rfl (.cons rfl (.cons rfl (.cons rfl (.cons rfl (.cons rfl (.cons rfl (.cons rfl (.cons rfl (.cons rfl (.cons rfl .nil)))))))))))))))))))))))))))))))))))))))))))) ?_)
  refine Fw.condF rfl ?_
  refine Fw.skip ?_
  refine Fw.X_blockN ?_
  refine hK25 _ _ ?_
  refine Fw.region ?_
  refine Fw.s (Fw.val_move rfl) rfl ?_
  refine Fw.s (Fw.val_bin rfl rfl (Fw.b_sub (Fw.i64_ok (by omega)))) rfl ?_
  refine Fw.s (Fw.val_assign rfl) rfl ?_
  refine Fw.nil ?_
  refine Fw.roundEnd _ _ (by omega) ⟨j, nx, rfl, by omega, hnx.no (fun hc => by have := (Rg.next_iff hEO hN hb hD hdl hfl hvN hvf hjl).1 hc; rw [Sp.ix_get hdt, Sp.ix_get hdv, Sp.ix_get hft, Sp.ix_get hfv] at this; omega), Hn, HD, HF, HO, HB, rfl⟩ (.cons rfl (.cons rfl (.cons rfl (.cons rfl (.cons rfl (.cons rfl (.cons rfl (.cons rfl (.cons rfl (.cons rfl .nil))))))))))
  rintro hm1
  refine Fw.nil ?_
  refine hK23 _ _ ?_
  refine Fw.condF rfl ?_
  refine Fw.exit ?_
  refine Fw.X_exit ?_
  refine Fw.X_exit ?_
  refine Fw.X_block ?_
  refine hK19 _ _ ?_
  refine Fw.seq fun _ hK40 => ?_
  obtain rfl : m = 0 := by omega
  obtain ⟨u, hu, hL⟩ := hnx.done (Sp.next_ex hA hD hvN hvf (by omega))
  have hul : u < E.length := hL.1.1.1
  have hus : (Rg.arcT N E ts false).s u = E[u].t := Rg.arc_s hul
  have hut : E[u].t < N := (hEO _ (List.getElem_mem hul)).2
  have hnf : D E[u].t ≠ Sp.INF := by rw [← hus]; exact hL.1.2.2.1
  have hDv : D v = D E[u].t + (Rg.tt ts u * 8192 + 1) := by rw [← hus, ← Rg.wt_ltF hul]; exact hL.1.2.2.2
  have htu : 1 ≤ Rg.tt ts u := by
    have h1 := Rg.tt_bd ts u
    have h2 : Rg.tt ts u ≠ Sp.INF := by rw [← Rg.wt_ltF hul]; exact hL.1.1.2
    exact (h1.resolve_left h2).1
  have hp0 := (hD.lo.pos E[u].t hut).1
  have hfu : Sp.fOf D v = Sp.fOf D E[u].t + 1 := by
    have h1 := (Sp.tight_iff hA h8 hN' hb hD (i := u) hL.1.1 hL.1.2.2.1 (by rw [hL.1.2.1]; exact hvf)).1 (by rw [hL.1.2.1]; exact hL.1.2.2.2)
    have h2 := h1.2
    rw [hL.1.2.1, hus] at h2; exact h2
  have hf0 : 0 ≤ Sp.fOf D E[u].t := (Sp.dig hA h8 hN' hb hD hut hnf).2.2.1
  obtain ⟨au, bu_, ou_, hAu, haddu, HEu⟩ := Fw.rdAt Rg.Ed.len (by decide) hE u hul
  refine Fw.region ?_
  refine Fw.s (Fw.val_move rfl) rfl ?_
  refine Fw.s (Fw.val_move rfl) rfl ?_
  rw [hu]
  refine Fw.buildSlice [_] sl46 rfl rfl (by exact Fw.allSz rfl) (by decide) rfl ?_
  intro w18 gS121 egS121 HS121 hb
  have n_gn_gS121 : gn < gS121 := by have := Hn.lt; omega
  have lgS121 : w.heap.size ≤ gS121 := by have := HB.size; omega
  replace Hn := Hn.low hb
  replace HD := own_below HD hb (Nat.le_refl _)
  replace HF := own_below HF hb (Nat.le_refl _)
  replace HO := own_below HO hb (Nat.le_refl _)
  replace HB := HB.trans (hb.mono HB.size)
  clear hb
  clear egS121
  refine Fw.append (acc ++ [u]).length (Rg.ints (acc ++ [u])) sl46 rfl rfl HO (Rg.one_nat HS121) rfl (Fw.oneCellsL rfl) (by unfold maxLen; omega) HB.size (by simp) (Rg.ints_app _ _) rfl ?_
  intro A122 c122 w19 N_ hbb hc hrow
  replace HB := HB.trans hbb
  replace Hn := Hn.chg hc (fun e => own_ne_blk HO Hn (by decide) e.symm)
  obtain ⟨_, HDbk, _⟩ := Fw.own_at HD
  obtain ⟨_, HFbk, _⟩ := Fw.own_at HF
  replace HD := own_to HD hc (fun g_ h_ e_ => own_ne_blk HO HDbk (by decide) (by rw [← e_]; injection h_ with h_; exact congrArg some h_.symm))
  replace HF := own_to HF hc (fun g_ h_ e_ => own_ne_blk HO HFbk (by decide) (by rw [← e_]; injection h_ with h_; exact congrArg some h_.symm))
  clear hbb hc hrow HO HS121 HDbk HFbk
  have HO := N_
  clear N_
  refine Fw.s (Fw.val_assign rfl) rfl ?_
  refine Fw.nil ?_
  refine hK40 _ _ (Fw.FC.sub (f' := [(13, _), (15, _), (12, _), (11, _), (4, _), (1, _), (2, _), (3, _)]) (.cons rfl (.cons rfl (.cons rfl (.cons rfl (.cons rfl (.cons rfl (.cons rfl (.cons rfl .nil)))))))) ?_)
  refine Fw.region ?_
  refine Fw.s (Fw.val_fieldAddr fl24_1 rfl rfl) rfl ?_
  refine Fw.ld sc22 rfl (Hn.cell 1) rfl ?_
  refine Fw.s (Fw.val_move rfl) rfl ?_
  refine Fw.s (Fw.val_indexR Try.underlying22 sz75 rfl hAu rfl rfl hul haddu) rfl ?_
  refine Fw.s (Fw.val_fieldAddr fl75_1 rfl rfl) rfl ?_
  refine Fw.ld sc3 rfl (Fw.rdCell (HEu.low HB) 1 rfl) rfl ?_
  refine Fw.s (Fw.val_assign rfl) rfl ?_
  refine Fw.nil ?_
  refine Fw.X_blockN ?_
  refine Fw.roundEnd _ _ (by omega) ⟨E[u].t, acc ++ [u], A122, c122, rfl, hut, hnf, fun l hl => by rw [List.append_assoc]; exact htr _ (.cons (by omega) hL (by rw [hus]; exact hl)), by rw [List.length_append]; show ((acc.length + 1 : Nat) : Int) + _ ≤ 12; omega, Hn, HD, HF, HO, HB, rfl⟩ (.cons rfl (.cons rfl (.cons rfl (.cons rfl (.cons rfl (.cons rfl (.cons rfl (.cons rfl .nil))))))))
  rintro hv1
  refine Fw.nil ?_
  refine hK16 _ _ ?_
  refine Fw.condF rfl ?_
  refine Fw.exit ?_
  refine Fw.X_exit ?_
  refine Fw.X_exit ?_
  refine Fw.X_block ?_
  refine hK13 _ _ (Fw.FC.sub (f' := [(13, _), (11, _), (2, _)]) (.cons rfl (.cons rfl (.cons rfl .nil))) ?_)
  refine Fw.seq fun _ hK42 => ?_
  refine Fw.regionQ (by kernel_rfl) (by kernel_rfl) ?_
  refine Fw.q (Fw.val_move rfl) rfl ?_
  refine Fw.q (Fw.val_move rfl) rfl ?_
  refine Fw.q (Fw.val_move rfl) rfl ?_
  have HC0 := Rg.own_cell HD _ had
  refine Fw.q (Fw.val_indexR Try.underlying100 sz2 rfl rfl rfl rfl ha (by rw [Fw.add_flat, Nat.zero_add, Nat.mul_one])) rfl ?_
  refine Fw.ldQ sc2 rfl (HC0) rfl ?_
  refine Fw.q (Fw.val_assign rfl) rfl ?_
  refine Fw.q (Fw.val_assign rfl) rfl ?_
  refine Fw.q (Fw.val_assign rfl) rfl ?_
  refine Fw.nilQ ?_
  intro w20 hb
  clear HC0
  replace Hn := Hn.low hb
  replace HD := own_below HD hb (Nat.le_refl _)
  replace HF := own_below HF hb (Nat.le_refl _)
  replace HO := own_below HO hb (Nat.le_refl _)
  replace HB := HB.trans (hb.mono HB.size)
  clear hb
  refine hK42 _ _ (Fw.FC.sub (f' := [(10, _), (9, _), (8, _)]) (.cons rfl (.cons rfl (.cons rfl .nil))) ?_)
  refine Fw.ret ?_
  refine Fw.ret_ [.tmp 8, .tmp 9, .tmp 10] [_, _, _] Try.results64 (.tmp rfl (.tmp rfl (.tmp rfl .nil))) ?_
  have hDa : D a ≠ Sp.INF := hfa.1 (by omega)
  have hvb : v = b := by omega
  exact ⟨A_, c_, acc, by rw [if_neg hDa, decide_eq_true hDa, ← hdl a ha, Sp.ix_get had]; rfl, HO, fun hh => absurd hh hDa, fun _ => by have := htr [] (by rw [hvb]; exact .nil); rwa [List.append_nil] at this, HB⟩

end Go.Proofs.Ytmacmlgjejdhpaa
