/- Layer 29: the agent in memory: its clock, its way. -/
import Derived.Test.YtodhpooddmeghaaAh
namespace Go.Proofs.Ytodhpooddmeghaa
set_option linter.unusedSimpArgs false
set_option linter.unusedVariables false
open Go.RowKit

theorem Fw.RdT.ne_ {w : World} {ty : TypeId} {A : Option Addr} {l : List Value} {g t : Nat} {cs : Array Value} (h : Fw.RdT w ty A l) (hb : Blk w g t cs) (hne : ty ≠ t) : ∀ ad, A = some ad → ¬ ad.block = g := fun ad e hg => by
  obtain ⟨cs', fr, hh⟩ := h.2 ad e
  rw [hg] at hh
  unfold Blk at hb
  rw [hb] at hh
  injection hh with hh
  injection hh with _ hh _
  exact hne hh.symm
theorem Fw.RdT.cut {w : World} {ty : TypeId} {A : Option Addr} {x : Value} {l : List Value} {c : Nat} (h : Fw.RdT w ty A (x :: l)) (hc : (x :: l).length ≤ c) : Fw.RdT w ty (cutA A c 1 1) l :=
  ⟨by have := h.1.cut (size := 1) c 1 (by omega); exact this, fun ad e => by
    unfold cutA at e
    split at e
    exact h.2 ad e
    cases hA : A with
    | none => rw [hA] at e; cases e
    | some ad0 =>
      rw [hA] at e
      injection e with e
      subst e
      exact h.2 ad0 hA⟩
theorem own_le {w : World} {base e size n c : Nat} {A : Option Addr} {xs : List Value} (h : w.ownsRow base e size (.slice A n c) n xs) : n ≤ c := by
  rcases h.2 with ⟨h1, _⟩ | ⟨g, cap, cur, h1, _, _, h2, _⟩
  injection h1 with _ h1 h2; omega
  injection h1 with _ _ h3; omega
/-- the agent at p, its fence at pf, its graph at pg -/
def AgAt (w : World) (p pf pg N : Nat) (E : List Rg.Ed) (u : Int) (a : Ag) : Prop := ∃ A c, Blk w p 89 #[.pointer (some ⟨pg, 0, none⟩), .pointer (some ⟨pf, 0, none⟩), .int .i64 u, .int .i64 a.s, .int .i64 (a.v : Int), .int .i64 a.i, .int .i64 (a.d : Int), .slice A a.p.length c, .int .i64 a.z, .int .i64 a.n, .int .i64 a.l.u, .int .i64 a.l.q, .int .i64 a.l.s, .int .i64 a.l.n, .int .i64 a.l.e, .int .i64 a.r] ∧ Fw.RdT w 3 A (Rg.ints a.p) ∧ a.p.length ≤ c ∧ FenceAt w pf a.f ∧ Rg.GT w pg N E
theorem AgAt.low {w w' : World} {p pf pg N : Nat} {E : List Rg.Ed} {u : Int} {a : Ag} (h : AgAt w p pf pg N E u a) (hb : Below w.heap.size w w') : AgAt w' p pf pg N E u a := by
  obtain ⟨A, c, h1, h2, h3, h4, h5⟩ := h
  exact ⟨A, c, h1.low hb, h2.low hb, h3, h4.low hb, h5.low hb⟩
theorem AgAt.lt {w : World} {p pf pg N : Nat} {E : List Rg.Ed} {u : Int} {a : Ag} (h : AgAt w p pf pg N E u a) : p < w.heap.size ∧ pf < w.heap.size ∧ p ≠ pf := by
  obtain ⟨A, c, h1, h2, h3, h4, h5⟩ := h
  exact ⟨h1.lt, Blk.lt h4, Blk.ne_ h1 h4 (by decide)⟩
/-- over a change of other blocks of such types -/
theorem AgAt.over {ts : List TypeId} {S : Nat → Prop} {w w' : World} {p pf pg N : Nat} {E : List Rg.Ed} {u : Int} {a : Ag} (h : AgAt w p pf pg N E u a) (hc : Chg S w w') (hk : Fw.Kp ts w w') (h1 : ¬ S p) (h2 : ¬ S pf) (t1 : ts.contains 107 = false) (t2 : ts.contains 47 = false) (t3 : ts.contains 3 = false) (t4 : ts.contains 29 = false) : AgAt w' p pf pg N E u a := by
  obtain ⟨A, c, k1, k2, k3, k4, k5⟩ := h
  exact ⟨A, c, k1.chg hc h1, k2.kp hk t3, k3, Blk.chg k4 hc h2, k5.kp hk t1 t2 t3 t4⟩
/-- what a change of an agent and its fence leaves -/
theorem AgAt.kp {w w' : World} {p pf pg N : Nat} {E : List Rg.Ed} {u : Int} {a : Ag} (h : AgAt w p pf pg N E u a) (hc : Chg (fun k => k = p ∨ k = pf) w w') : Fw.Kp [89, 109] w w' := by
  obtain ⟨A, c, k1, k2, k3, k4, k5⟩ := h
  refine (Fw.Kp.refl _ w).chg hc fun g t cs fr hg ht e => ?_
  unfold Blk at k1
  unfold FenceAt Blk at k4
  rcases e with e | e
  subst e
  rw [k1] at hg
  injection hg with hg
  injection hg with _ hg _
  subst hg
  revert ht; decide
  subst e
  rw [k4] at hg
  injection hg with hg
  injection hg with _ hg _
  subst hg
  revert ht; decide
/-- an agent goes over another agent's change -/
theorem AgAt.other {w w' : World} {p pf pg N : Nat} {E : List Rg.Ed} {u : Int} {a : Ag} {q qf qg N' : Nat} {E' : List Rg.Ed} {u' : Int} {b : Ag} (h : AgAt w p pf pg N E u a) (h' : AgAt w q qf qg N' E' u' b) (hc : Chg (fun k => k = q ∨ k = qf) w w') (h1 : p ≠ q) (h2 : pf ≠ qf) : AgAt w' p pf pg N E u a := by
  have hp : p ≠ qf := by
    obtain ⟨_, _, k1, _⟩ := h
    obtain ⟨_, _, _, _, _, k4, _⟩ := h'
    exact Blk.ne_ k1 k4 (by decide)
  have hpf : pf ≠ q := by
    obtain ⟨_, _, _, _, _, k4, _⟩ := h
    obtain ⟨_, _, k1, _⟩ := h'
    exact Blk.ne_ k4 k1 (by decide)
  exact h.over hc (h'.kp hc) (by omega) (by omega) rfl rfl rfl rfl
namespace Ag
theorem cl_if (t : Int) : (if (1099511627776 : Int) < (if 0 > t then 0 else t) then 1099511627776 else (if 0 > t then 0 else t)) = cl t := by
  unfold cl; split <;> split <;> omega
theorem now_if (a : Ag) (t : Int) : (if cl t > a.n then cl t else a.n) = now a t := by
  unfold now; split <;> omega
theorem drive_go {E : List Rg.Ed} {m z : Int} {i v : Nat} {l : List Nat} (h : i < E.length) (hn : ¬ m - z < E[i].m) : drive E m (i :: l) v z = drive E m l E[i].t (z + E[i].m) := by
  have e := Rg.ed_at h
  have : drive E m (i :: l) v z = if m - z < (Rg.ed E i).m then (i :: l, v, z) else drive E m l (Rg.ed E i).t (z + (Rg.ed E i).m) := rfl
  rw [this, e, if_neg hn]
theorem drive_stop {E : List Rg.Ed} {m z : Int} {i v : Nat} {l : List Nat} (h : i < E.length) (hn : m - z < E[i].m) : drive E m (i :: l) v z = (i :: l, v, z) := by
  have e := Rg.ed_at h
  have : drive E m (i :: l) v z = if m - z < (Rg.ed E i).m then (i :: l, v, z) else drive E m l (Rg.ed E i).t (z + (Rg.ed E i).m) := rfl
  rw [this, e, if_pos hn]
theorem moved_eq {E : List Rg.Ed} {a : Ag} {m z : Int} {pp : List Nat} {v : Nat} (h : drive E m pp v z = drive E m a.p a.v a.z) (h' : drive E m pp v z = (pp, v, z)) : moved E a m = { a with n := m, p := pp, v := v, z := z } := by
  unfold moved; rw [← h, h']
end Ag
set_option maxRecDepth 100000 in
set_option maxHeartbeats 1000000 in
theorem clamp_any (t : Int) (w : World) : Calls Try.prog 53 #[.int .i64 t] w fun e_ w' => e_ = .returned (.int .i64 (Ag.cl t)) ∧ w = w' := by
  refine Fw.calls Try.func53 rfl Try.ntmps53 rfl ?_
  refine Fw.seq fun _ hK1 => ?_
  refine Fw.region ?_
  refine Fw.s (Fw.val_assign rfl) rfl ?_
  refine Fw.nil ?_
  refine hK1 _ _ ?_
  refine Fw.seq fun _ hK2 => ?_
  refine Fw.region ?_
  refine Fw.s (Fw.val_move rfl) rfl ?_
  refine Fw.s (Fw.val_max rfl rfl rfl) rfl ?_
  refine Fw.s (Fw.val_min rfl rfl (Ag.cl_if t)) rfl ?_
  refine Fw.s (Fw.val_assign rfl) rfl ?_
  refine Fw.nil ?_
  refine hK2 _ _ ?_
  refine Fw.ret ?_
  refine Fw.ret_ [.tmp 2] [_] Try.results53 (.tmp rfl .nil) ?_
  exact ⟨rfl, rfl⟩

set_option maxRecDepth 100000 in
set_option maxHeartbeats 1000000 in
theorem arrive_any (w : World) (p pf pg N : Nat) (E : List Rg.Ed) (u : Int) (a : Ag) (h : AgAt w p pf pg N E u a) : Calls Try.prog 47 #[.pointer (some ⟨p, 0, none⟩)] w fun e_ w' => e_ = .returned (.tuple #[]) ∧ AgAt w' p pf pg N E u (Ag.arrive a) ∧ Chg (· = p) w w' := by
  obtain ⟨A, c, HA, HP, hpc, HF, HG⟩ := h
  have hpl := HA.lt
  have hfl := Blk.lt HF
  have n_pf : p ≠ pf := Blk.ne_ HA HF (by decide)
  refine Fw.calls Try.func47 rfl Try.ntmps47 rfl ?_
  have HC := Chg.refl (· = p) w
  refine Fw.seq fun _ hK1 => ?_
  refine Fw.regionQ (by kernel_rfl) (by kernel_rfl) ?_
  refine Fw.q (Fw.val_move rfl) rfl ?_
  refine Fw.q (Fw.val_nil rfl) rfl ?_
  refine Fw.q (Fw.val_fieldAddr fl89_3 rfl rfl) rfl ?_
  refine Fw.ldQ sc3 rfl (HA.cell 3) rfl ?_
  refine Fw.q2 (Fw.val_bin rfl rfl Fw.b_eql) rfl ?_ ?_
  rintro h3
  refine Fw.q (Fw.val_move rfl) rfl ?_
  refine Fw.gTQ (d := 7) rfl rfl ?_
  refine Fw.q (Fw.val_move rfl) rfl ?_
  refine Fw.gTQ (d := 7) rfl rfl ?_
  refine Fw.q (Fw.val_nil rfl) rfl ?_
  refine Fw.gTQ (d := 7) rfl rfl ?_
  refine Fw.q (Fw.val_fieldAddr fl89_4 rfl rfl) rfl ?_
  refine Fw.gTQ (d := 7) rfl rfl ?_
  refine Fw.ldQ sc3 rfl (HA.cell 4) rfl ?_
  refine Fw.gTQ (d := 7) rfl rfl ?_
  refine Fw.q (Fw.val_move rfl) rfl ?_
  refine Fw.gTQ (d := 7) rfl rfl ?_
  refine Fw.q (Fw.val_nil rfl) rfl ?_
  refine Fw.gTQ (d := 7) rfl rfl ?_
  refine Fw.q (Fw.val_fieldAddr fl89_6 rfl rfl) rfl ?_
  refine Fw.gTQ (d := 7) rfl rfl ?_
  refine Fw.ldQ sc3 rfl (HA.cell 6) rfl ?_
  refine Fw.gTQ (d := 7) rfl rfl ?_
  refine Fw.q2 (Fw.val_bin rfl rfl Fw.b_eql) rfl ?_ ?_
  rintro hvd
  refine Fw.q (Fw.val_pickT rfl rfl) rfl ?_
  refine Fw.nilQ ?_
  intro w1 hb
  replace HA := HA.low hb
  replace HF := HF.low hb
  replace HP := HP.low hb
  replace HG := HG.low hb
  replace HC := HC.trans (Chg.of_below hb (· = p)) (fun _ _ h => h)
  clear hb
  refine hK1 _ _ (Fw.FC.sub (f' := [(17, _), (0, _)]) (.cons rfl (.cons rfl .nil)) ?_)
  refine Fw.condT rfl ?_
  refine Fw.region ?_
  refine Fw.s (Fw.val_move rfl) rfl ?_
  refine Fw.s (Fw.val_nil rfl) rfl ?_
  refine Fw.s (Fw.val_fieldAddr fl89_3 rfl rfl) rfl ?_
  refine Fw.store sz3 rfl rfl HA rfl rfl rfl ?_
  intro w2 N_ hc
  replace HF := HF.chg hc (by omega)
  replace HP := HP.chg hc (Fw.RdT.ne_ HP HA (by decide))
  replace HG := HG.kp ((Fw.Kp.refl [89] _).one hc HA rfl) rfl rfl rfl rfl
  replace HC := HC.trans hc (fun k hk_ e => by first | exact e | (left; exact e) | (right; exact e) | (exfalso; omega))
  clear hc
  clear HA
  have HA := N_
  clear N_
  replace HA : Blk w2 p 89 #[.pointer (some ⟨pg, 0, none⟩), .pointer (some ⟨pf, 0, none⟩), .int .i64 u, .int .i64 4, .int .i64 (a.v : Int), .int .i64 a.i, .int .i64 (a.d : Int), .slice A a.p.length c, .int .i64 a.z, .int .i64 a.n, .int .i64 a.l.u, .int .i64 a.l.q, .int .i64 a.l.s, .int .i64 a.l.n, .int .i64 a.l.e, .int .i64 a.r] := HA
  refine Fw.nil ?_
  refine Fw.end_ [] [] Try.results47 .nil ?_
  have e : Ag.arrive a = { a with s := 4 } := if_pos ⟨h3, by omega⟩
  rw [e]
  exact ⟨rfl, ⟨A, c, HA, HP, hpc, HF, HG⟩, HC⟩
  rintro hvd
  refine Fw.q (Fw.val_pickT rfl rfl) rfl ?_
  refine Fw.nilQ ?_
  intro w3 hb
  replace HA := HA.low hb
  replace HF := HF.low hb
  replace HP := HP.low hb
  replace HG := HG.low hb
  replace HC := HC.trans (Chg.of_below hb (· = p)) (fun _ _ h => h)
  clear hb
  refine hK1 _ _ (Fw.FC.sub (f' := [(17, _), (0, _)]) (.cons rfl (.cons rfl .nil)) ?_)
  refine Fw.condF rfl ?_
  refine Fw.skip ?_
  refine Fw.end_ [] [] Try.results47 .nil ?_
  have e : Ag.arrive a = a := if_neg (fun k => by omega)
  rw [e]
  exact ⟨rfl, ⟨A, c, HA, HP, hpc, HF, HG⟩, HC⟩
  rintro h3
  refine Fw.q (Fw.val_move rfl) rfl ?_
  refine Fw.gFQ (d := 7) rfl rfl rfl rfl ?_
  refine Fw.gFQ (d := 7) rfl rfl rfl rfl ?_
  refine Fw.gFQ (d := 7) rfl rfl rfl rfl ?_
  refine Fw.gFQ (d := 7) rfl rfl rfl rfl ?_
  refine Fw.gFQ (d := 7) rfl rfl rfl rfl ?_
  refine Fw.gFQ (d := 7) rfl rfl rfl rfl ?_
  refine Fw.gFQ (d := 7) rfl rfl rfl rfl ?_
  refine Fw.gFQ (d := 7) rfl rfl rfl rfl ?_
  refine Fw.gFQ (d := 7) rfl rfl rfl rfl ?_
  refine Fw.q (Fw.val_pickF rfl rfl) rfl ?_
  refine Fw.nilQ ?_
  intro w4 hb
  replace HA := HA.low hb
  replace HF := HF.low hb
  replace HP := HP.low hb
  replace HG := HG.low hb
  replace HC := HC.trans (Chg.of_below hb (· = p)) (fun _ _ h => h)
  clear hb
  refine hK1 _ _ (Fw.FC.sub (f' := [(17, _), (0, _)]) (.cons rfl (.cons rfl .nil)) ?_)
  refine Fw.condF rfl ?_
  refine Fw.skip ?_
  refine Fw.end_ [] [] Try.results47 .nil ?_
  have e : Ag.arrive a = a := if_neg (fun k => by omega)
  rw [e]
  exact ⟨rfl, ⟨A, c, HA, HP, hpc, HF, HG⟩, HC⟩

namespace Rg
theorem ems_len (E : List Ed) : (ems E).length = (List.replicate E.length (0 : Int)).length := by unfold ems; simp
end Rg
set_option maxRecDepth 100000 in
set_option maxHeartbeats 1000000 in
theorem travelTimesG_any (w : World) (g : Nat) (N : Nat) (E : List Rg.Ed) (hG : Rg.GAt w g N E) (hEl : E.length ≤ 65536) : Calls Try.prog 60 #[.pointer (some ⟨g, 0, none⟩)] w fun e_ w' => ∃ gT c', e_ = .returned (.slice (some ⟨gT, 0, none⟩) (Rg.ems E).length c') ∧ w'.ownsRow w.heap.size 2 1 (.slice (some ⟨gT, 0, none⟩) (Rg.ems E).length c') (Rg.ems E).length ((Rg.ems E).map (.int .i64)) ∧ Below w.heap.size w w' := by
  obtain ⟨Ae, ce, Ao, co, Ai, ci, svO, svI, hg⟩ := hG
  have HGr := hg.blk
  refine Fw.calls Try.func60 rfl Try.ntmps60 rfl ?_
  have HB := Below.refl (w.heap.size) w
  refine Fw.seq fun _ hK1 => ?_
  refine Fw.region ?_
  refine Fw.s (Fw.val_assign rfl) rfl ?_
  refine Fw.nil ?_
  refine hK1 _ _ ?_
  refine Fw.seq fun _ hK2 => ?_
  refine Fw.region ?_
  refine Fw.s (Fw.val_move rfl) rfl ?_
  refine Fw.s (Fw.val_nil rfl) rfl ?_
  refine Fw.s (Fw.val_fieldAddr fl107_0 rfl rfl) rfl ?_
  refine Fw.ld sc30 rfl ((HGr.low HB).cell 0) rfl ?_
  refine Fw.s (Fw.val_len Try.underlying30 rfl) rfl ?_
  refine Fw.makeG E.length sl123 zi2 rfl rfl rfl rfl (by omega) (by unfold maxLen; omega) HB.size rfl ?_
  intro w1 gL egL HL hb
  rw [Fw.made (cells := fun (x : Int) => [Value.int .i64 x]) (m := 1) (0 : Int) (Value.cells (.int .i64 0)) rfl rfl] at HL
  have lgL : w.heap.size ≤ gL := by have := HB.size; omega
  replace HB := HB.trans (hb.mono HB.size)
  clear hb
  clear egL
  replace HL : World.ownsRow w1 w.heap.size 2 1 (.slice (some ⟨gL, 0, none⟩) E.length E.length) E.length ((Fw.mix (Rg.ems E) (List.replicate E.length (0 : Int)) 0).map (.int .i64)) := by rw [Fw.mix_zero]; simpa [List.flatMap_replicate] using HL
  refine Fw.s (Fw.val_assign rfl) rfl ?_
  refine Fw.nil ?_
  refine hK2 _ _ (Fw.FC.sub (f' := [(3, _), (0, _)]) (.cons rfl (.cons rfl .nil)) ?_)
  refine Fw.seq fun _ hK3 => ?_
  refine Fw.seq fun _ hK4 => ?_
  refine Fw.region ?_
  refine Fw.s (Fw.val_move rfl) rfl ?_
  refine Fw.s (Fw.val_nil rfl) rfl ?_
  refine Fw.s (Fw.val_fieldAddr fl107_0 rfl rfl) rfl ?_
  refine Fw.ld sc30 rfl ((HGr.low HB).cell 0) rfl ?_
  refine Fw.s (Fw.val_len Try.underlying30 rfl) rfl ?_
  refine Fw.s (Fw.val_move rfl) rfl ?_
  refine Fw.nil ?_
  refine hK4 _ _ ?_
  refine Fw.block ?_
  refine Fw.loop (fun m_ f_ W_ => ∃ (k : Nat), m_ = E.length - k ∧ k ≤ E.length ∧ World.ownsRow W_ w.heap.size 2 1 (.slice (some ⟨gL, 0, none⟩) E.length E.length) E.length ((Fw.mix (Rg.ems E) (List.replicate E.length (0 : Int)) k).map (.int .i64)) ∧ Below (w.heap.size) w W_ ∧ f_ = [(17, .int .i64 k), (16, .int .i64 E.length), (15, .slice Ae E.length ce), (3, .slice (some ⟨gL, 0, none⟩) E.length E.length)]) ⟨_, _, ⟨0, rfl, Nat.zero_le _, HL, HB, rfl⟩, (.cons rfl (.cons rfl (.cons rfl (.cons rfl .nil))))⟩ ?_
  clear HL HB
  rintro m5_ _ w2 ⟨k, hm5_, hkn, HL, HB, rfl⟩
  refine Fw.seq fun _ hK6 => ?_
  refine Fw.region ?_
  refine Fw.s2 (Fw.val_bin rfl rfl Fw.b_lss) rfl ?_ ?_
  rintro hlt
  refine Fw.nil ?_
  refine hK6 _ _ ?_
  refine Fw.seq fun _ hK8 => ?_
  refine Fw.condT rfl ?_
  refine Fw.skip ?_
  refine hK8 _ _ ?_
  refine Fw.seq fun _ hK9 => ?_
  refine Fw.block ?_
  refine Fw.seq fun _ hK10 => ?_
  have hk : k < E.length := by omega
  obtain ⟨ad, b_, o_, hA, hadd, HEe⟩ := Fw.rdAt Rg.Ed.len (by decide) hg.edges k hk
  refine Fw.region ?_
  refine Fw.s (Fw.val_move rfl) rfl ?_
  refine Fw.s (Fw.val_indexR Try.underlying30 sz29 rfl hA rfl rfl hk hadd) rfl ?_
  refine Fw.ldA ag29 rfl ((HEe.low HB)) rfl rfl ?_
  refine Fw.alloc ze29 rfl ?_
  intro w3 ge ege He hb
  have n_gL_ge : gL < ge := by have := (HL.lt gL rfl).2; omega
  have lge : w.heap.size ≤ ge := by have := HB.size; omega
  replace HL := own_below HL hb (Nat.le_refl _)
  replace HB := HB.trans (hb.mono HB.size)
  clear hb
  clear ege
  refine Fw.s (Fw.val_assign rfl) rfl ?_
  refine Fw.storeW sz29 rfl rfl He rfl rfl (by exact Fw.oneCells rfl) ?_
  intro w4 N_ hc
  replace HL := own_to HL hc (fun g_ h_ e_ => own_ne HL He (by decide) (by rw [h_, e_]))
  replace HB := HB.trans (hc.below (B := w.heap.size) (fun k e => by omega) HB.size)
  clear hc
  clear He
  have He := N_
  clear N_
  replace He : Blk w4 ge 29 #[.int .i64 (E[k].f : Int), .int .i64 (E[k].t : Int), .int .i64 E[k].m] := He
  refine Fw.nil ?_
  refine hK10 _ _ ?_
  refine Fw.region ?_
  refine Fw.s (Fw.val_move rfl) rfl ?_
  refine Fw.s (Fw.val_move rfl) rfl ?_
  refine Fw.s (Fw.val_fieldAddr fl29_2 rfl rfl) rfl ?_
  refine Fw.ld sc2 rfl (He.cell 2) rfl ?_
  have EW12 := True.intro
  refine Fw.s (Fw.val_indexR Try.underlying123 sz2 rfl rfl rfl rfl hk (by rw [Fw.add_flat, Nat.zero_add, Nat.mul_one])) rfl ?_
  refine Fw.storeR sz2 rfl rfl HL (by rw [List.length_map, Fw.mix_len (Rg.ems_len E), List.length_replicate]; exact hk) rfl rfl ?_
  intro w5 N_ hc
  replace He := He.chg hc (by omega)
  replace HB := HB.trans (hc.below (B := w.heap.size) (fun k e => by omega) HB.size)
  clear hc
  clear HL EW12
  have HL := N_
  clear N_
  have e_ : (Rg.ems E)[k]'(by unfold Rg.ems; simpa using hk) = E[k].m := by simp [Rg.ems]
  replace HL : World.ownsRow w5 w.heap.size 2 1 (.slice (some ⟨gL, 0, none⟩) E.length E.length) E.length ((Fw.mix (Rg.ems E) (List.replicate E.length (0 : Int)) (k + 1)).map (.int .i64)) := by rw [← Fw.mix_set (Rg.ems_len E) (by simpa using hk), List.map_set, e_]; exact HL
  refine Fw.nil ?_
  refine Fw.X_blockN ?_
  refine hK9 _ _ (Fw.FC.sub (f' := [(17, _), (16, _), (15, _), (3, _)]) (.cons rfl (.cons rfl (.cons rfl (.cons rfl .nil)))) ?_)
  refine Fw.region ?_
  refine Fw.s (Fw.val_bin rfl rfl (Fw.b_add (Fw.i64_ok (by omega)))) rfl ?_
  refine Fw.s (Fw.val_move rfl) rfl ?_
  refine Fw.nil ?_
  refine Fw.roundEnd _ _ (by omega) ⟨k + 1, rfl, by omega, HL, HB, rfl⟩ (.cons rfl (.cons rfl (.cons rfl (.cons rfl .nil))))
  rintro hlt
  refine Fw.nil ?_
  refine hK6 _ _ ?_
  refine Fw.seq fun _ hK14 => ?_
  refine Fw.condF rfl ?_
  refine Fw.exit ?_
  refine Fw.X_exit ?_
  refine Fw.X_exit ?_
  refine Fw.X_block ?_
  refine hK3 _ _ ?_
  refine Fw.seq fun _ hK15 => ?_
  refine Fw.region ?_
  refine Fw.s (Fw.val_move rfl) rfl ?_
  refine Fw.s (Fw.val_assign rfl) rfl ?_
  refine Fw.nil ?_
  refine hK15 _ _ ?_
  refine Fw.ret ?_
  refine Fw.ret_ [.tmp 2] [_] Try.results60 (.tmp rfl .nil) ?_
  have hk : k = E.length := by omega
  subst hk
  rw [Fw.mix_all (Rg.ems_len E) (by simp)] at HL
  have el : (Rg.ems E).length = E.length := by unfold Rg.ems; simp
  rw [el]
  exact ⟨gL, _, rfl, HL, HB⟩

set_option maxRecDepth 100000 in
set_option maxHeartbeats 1000000 in
theorem head_any (w : World) (p pf pg N : Nat) (E : List Rg.Ed) (u : Int) (a : Ag) (h : AgAt w p pf pg N E u a) (hn : Rg.Net N E) (hv : a.v < N) (d : Nat) (hd : d < N) : Calls Try.prog 46 #[.pointer (some ⟨p, 0, none⟩), .int .i64 (d : Int)] w fun e_ w' => e_ = .returned (.tuple #[]) ∧ AgAt w' p pf pg N E u (Ag.head N E a d) ∧ Chg (· = p) w w' := by
  obtain ⟨A, c, HA, HP, hpc, HF, HG⟩ := h
  have hpl := HA.lt
  have hfl := Blk.lt HF
  have n_pf : p ≠ pf := Blk.ne_ HA HF (by decide)
  have hn1 := hn.n
  have hn2 := hn.e
  refine Fw.calls Try.func46 rfl Try.ntmps46 rfl ?_
  have HC := Chg.refl (· = p) w
  refine Fw.seq fun _ hK1 => ?_
  refine Fw.region ?_
  refine Fw.s (Fw.val_move rfl) rfl ?_
  refine Fw.s (Fw.val_move rfl) rfl ?_
  refine Fw.s (Fw.val_nil rfl) rfl ?_
  refine Fw.s (Fw.val_fieldAddr fl89_6 rfl rfl) rfl ?_
  refine Fw.store sz3 rfl rfl HA rfl rfl rfl ?_
  intro w1 N_ hc
  replace HF := HF.chg hc (by omega)
  replace HP := HP.chg hc (Fw.RdT.ne_ HP HA (by decide))
  replace HG := HG.kp ((Fw.Kp.refl [89] _).one hc HA rfl) rfl rfl rfl rfl
  replace HC := HC.trans hc (fun k hk_ e => by first | exact e | (left; exact e) | (right; exact e) | (exfalso; omega))
  clear hc
  clear HA
  have HA := N_
  clear N_
  replace HA : Blk w1 p 89 #[.pointer (some ⟨pg, 0, none⟩), .pointer (some ⟨pf, 0, none⟩), .int .i64 u, .int .i64 a.s, .int .i64 (a.v : Int), .int .i64 a.i, .int .i64 (d : Int), .slice A a.p.length c, .int .i64 a.z, .int .i64 a.n, .int .i64 a.l.u, .int .i64 a.l.q, .int .i64 a.l.s, .int .i64 a.l.n, .int .i64 a.l.e, .int .i64 a.r] := HA
  refine Fw.nil ?_
  refine hK1 _ _ ?_
  refine Fw.seq fun _ hK2 => ?_
  refine Fw.region ?_
  refine Fw.s (Fw.val_move rfl) rfl ?_
  refine Fw.s (Fw.val_nil rfl) rfl ?_
  refine Fw.s (Fw.val_fieldAddr fl89_7 rfl rfl) rfl ?_
  refine Fw.store sz47 rfl rfl HA rfl rfl rfl ?_
  intro w2 N_ hc
  replace HF := HF.chg hc (by omega)
  replace HP := HP.chg hc (Fw.RdT.ne_ HP HA (by decide))
  replace HG := HG.kp ((Fw.Kp.refl [89] _).one hc HA rfl) rfl rfl rfl rfl
  replace HC := HC.trans hc (fun k hk_ e => by first | exact e | (left; exact e) | (right; exact e) | (exfalso; omega))
  clear hc
  clear HA
  have HA := N_
  clear N_
  replace HA : Blk w2 p 89 #[.pointer (some ⟨pg, 0, none⟩), .pointer (some ⟨pf, 0, none⟩), .int .i64 u, .int .i64 a.s, .int .i64 (a.v : Int), .int .i64 a.i, .int .i64 (d : Int), .slice none 0 0, .int .i64 a.z, .int .i64 a.n, .int .i64 a.l.u, .int .i64 a.l.q, .int .i64 a.l.s, .int .i64 a.l.n, .int .i64 a.l.e, .int .i64 a.r] := HA
  refine Fw.nil ?_
  refine hK2 _ _ (Fw.FC.sub (f' := [(0, _), (1, _)]) (.cons rfl (.cons rfl .nil)) ?_)
  refine Fw.seq fun _ hK3 => ?_
  refine Fw.region ?_
  refine Fw.s (Fw.val_move rfl) rfl ?_
  refine Fw.s (Fw.val_move rfl) rfl ?_
  refine Fw.s (Fw.val_nil rfl) rfl ?_
  refine Fw.s (Fw.val_fieldAddr fl89_9 rfl rfl) rfl ?_
  refine Fw.ld sc2 rfl (HA.cell 9) rfl ?_
  refine Fw.s (Fw.val_nil rfl) rfl ?_
  refine Fw.s (Fw.val_fieldAddr fl89_8 rfl rfl) rfl ?_
  refine Fw.store sz2 rfl rfl HA rfl rfl rfl ?_
  intro w3 N_ hc
  replace HF := HF.chg hc (by omega)
  replace HP := HP.chg hc (Fw.RdT.ne_ HP HA (by decide))
  replace HG := HG.kp ((Fw.Kp.refl [89] _).one hc HA rfl) rfl rfl rfl rfl
  replace HC := HC.trans hc (fun k hk_ e => by first | exact e | (left; exact e) | (right; exact e) | (exfalso; omega))
  clear hc
  clear HA
  have HA := N_
  clear N_
  replace HA : Blk w3 p 89 #[.pointer (some ⟨pg, 0, none⟩), .pointer (some ⟨pf, 0, none⟩), .int .i64 u, .int .i64 a.s, .int .i64 (a.v : Int), .int .i64 a.i, .int .i64 (d : Int), .slice none 0 0, .int .i64 a.n, .int .i64 a.n, .int .i64 a.l.u, .int .i64 a.l.q, .int .i64 a.l.s, .int .i64 a.l.n, .int .i64 a.l.e, .int .i64 a.r] := HA
  refine Fw.nil ?_
  refine hK3 _ _ (Fw.FC.sub (f' := [(0, _), (1, _)]) (.cons rfl (.cons rfl .nil)) ?_)
  refine Fw.seq fun _ hK4 => ?_
  refine Fw.seq fun _ hK5 => ?_
  refine Fw.region ?_
  refine Fw.s (Fw.val_move rfl) rfl ?_
  refine Fw.s (Fw.val_move rfl) rfl ?_
  refine Fw.s (Fw.val_nil rfl) rfl ?_
  refine Fw.s (Fw.val_fieldAddr fl89_4 rfl rfl) rfl ?_
  refine Fw.ld sc3 rfl (HA.cell 4) rfl ?_
  refine Fw.s2 (Fw.val_bin rfl rfl Fw.b_eql) rfl ?_ ?_
  rintro hdv
  refine Fw.nil ?_
  refine hK5 _ _ ?_
  refine Fw.condT rfl ?_
  refine Fw.ret ?_
  refine Fw.X_ret ?_
  refine Fw.ret_ [] [] Try.results46 .nil ?_
  have e : Ag.head N E a d = { a with d := d, z := a.n, p := [] } := by unfold Ag.head; rw [if_pos (by omega)]
  rw [e]
  exact ⟨rfl, ⟨none, 0, HA, Fw.RdT.nil _ _, Nat.zero_le _, HF, HG⟩, HC⟩
  rintro hdv
  refine Fw.nil ?_
  refine hK5 _ _ ?_
  refine Fw.condF rfl ?_
  refine Fw.skip ?_
  refine hK4 _ _ ?_
  refine Fw.seq fun _ hK7 => ?_
  refine Fw.regionH (by kernel_rfl) ?_
  have R_HA := HA
  have R_HF := HF
  have R_HG := HG
  intro w4 hb
  have HS := hb
  replace HA := HA.low hb
  replace HF := HF.low hb
  replace HP := HP.low hb
  replace HG := HG.low hb
  replace HC := HC.trans (Chg.of_below hb (· = p)) (fun _ _ h => h)
  clear hb
  refine Fw.hTk 0 rfl rfl (Fw.yV (Fw.val_move rfl)) rfl ?_
  refine Fw.hTk 1 rfl rfl (Fw.yV (Fw.val_nil rfl)) rfl ?_
  refine Fw.hTk 2 rfl rfl (Fw.yV (Fw.val_fieldAddr fl89_0 rfl rfl)) rfl ?_
  refine Fw.hTk 3 rfl rfl (Fw.yV (Fw.hLd sc24 rfl (R_HA.cell 0))) rfl ?_
  refine Fw.hTk 4 rfl rfl (Fw.yV (Fw.val_move rfl)) rfl ?_
  refine Fw.hTk 5 rfl rfl (Fw.yV (Fw.val_nil rfl)) rfl ?_
  refine Fw.hTk 6 rfl rfl (Fw.yV (Fw.val_fieldAddr fl89_0 rfl rfl)) rfl ?_
  refine Fw.hTk 7 rfl rfl (Fw.yV (Fw.hLd sc24 rfl (R_HA.cell 0))) rfl ?_
  refine Fw.hTk 9 rfl rfl (Fw.yV (Fw.val_move rfl)) rfl ?_
  refine Fw.hTk 10 rfl rfl (Fw.yV (Fw.val_nil rfl)) rfl ?_
  refine Fw.hTk 11 rfl rfl (Fw.yV (Fw.val_fieldAddr fl89_4 rfl rfl)) rfl ?_
  refine Fw.hTk 12 rfl rfl (Fw.yV (Fw.hLd sc3 rfl (R_HA.cell 4))) rfl ?_
  refine Fw.hTk 13 rfl rfl (Fw.yV (Fw.val_move rfl)) rfl ?_
  refine Fw.hAll1 8 (by kernel_rfl) ?_
  refine Fw.hOp 8 rfl ?_
  refine Fw.call cf60 rfl rfl (travelTimesG_any _ pg N E HG.at_ (by omega)) ?_
  rintro e_ w5 ⟨gT, cT, rfl, HT, hb⟩
  refine ⟨_, rfl, ?_⟩
  replace HA := HA.low hb
  replace HF := HF.low hb
  replace HP := HP.low hb
  replace HG := HG.low hb
  replace HS := HS.trans (hb.mono HS.size)
  replace HC := HC.trans (Chg.of_below hb (· = p)) (fun _ _ h => h)
  clear hb
  refine Fw.hNext HS ?_
  refine Fw.hAll1 14 (by kernel_rfl) ?_
  refine Fw.hOp 14 rfl ?_
  refine Fw.call cf59 rfl rfl (path_any _ pg N E HG.at_ hn.ok (by omega) (by omega) (some ⟨gT, 0, none⟩) (Rg.ems E) cT (Rd.of_own HT) a.v d hv hd (Rg.distOf N E d) (Rg.distOf_spec hn.ok (by omega) hd)) ?_
  rintro e_ w6 ⟨Ap, cp, l, rfl, HO, hz, ht, hb⟩
  refine ⟨_, rfl, ?_⟩
  replace HA := HA.low hb
  replace HF := HF.low hb
  replace HP := HP.low hb
  replace HG := HG.low hb
  replace HS := HS.trans (hb.mono HS.size)
  replace HT := own_below HT hb (Nat.le_refl _)
  replace HC := HC.trans (Chg.of_below hb (· = p)) (fun _ _ h => h)
  clear hb
  obtain rfl : l = Rg.wayOf N E a.v d := Rg.wayOf_eq hz ht
  replace HT := True.intro
  clear HT
  refine Fw.hNext HS ?_
  refine Fw.hTk 15 rfl rfl (Fw.yV (Fw.val_move rfl)) rfl ?_
  refine Fw.hTk 16 rfl rfl (Fw.yV (Fw.val_extract rfl rfl)) rfl ?_
  refine Fw.hTk 17 rfl rfl (Fw.yV (Fw.val_extract rfl rfl)) rfl ?_
  refine Fw.hTk 18 rfl rfl (Fw.yV (Fw.val_extract rfl rfl)) rfl ?_
  refine Fw.hTk 19 rfl rfl (Fw.yV (Fw.val_assign rfl)) rfl ?_
  refine Fw.hTk 20 rfl rfl (Fw.yV (Fw.val_assign rfl)) rfl ?_
  refine Fw.hTk 21 rfl rfl (Fw.yV (Fw.val_assign rfl)) rfl ?_
  refine Fw.hDone (by kernel_rfl) ?_
  refine hK7 _ _ (Fw.FC.sub (f' := [(6, _), (4, _), (0, _)]) (.cons rfl (.cons rfl (.cons rfl .nil))) ?_)
  refine Fw.seq fun _ hK8 => ?_
  refine Fw.region ?_
  refine Fw.s (Fw.val_move rfl) rfl ?_
  refine Fw.b2 ?_ ?_
  rintro hok
  refine Fw.nil ?_
  refine hK8 _ _ ?_
  refine Fw.condT rfl ?_
  refine Fw.region ?_
  refine Fw.s (Fw.val_move rfl) rfl ?_
  refine Fw.s (Fw.val_move rfl) rfl ?_
  refine Fw.s (Fw.val_nil rfl) rfl ?_
  refine Fw.s (Fw.val_fieldAddr fl89_7 rfl rfl) rfl ?_
  refine Fw.store sz47 rfl rfl HA rfl rfl rfl ?_
  intro w7 N_ hc
  replace HF := HF.chg hc (by omega)
  replace HP := HP.chg hc (Fw.RdT.ne_ HP HA (by decide))
  replace HG := HG.kp ((Fw.Kp.refl [89] _).one hc HA rfl) rfl rfl rfl rfl
  replace HO := own_to HO hc (fun g_ h_ e_ => own_ne HO HA (by decide) (by rw [h_, e_]))
  replace HC := HC.trans hc (fun k hk_ e => by first | exact e | (left; exact e) | (right; exact e) | (exfalso; omega))
  clear hc
  clear HA
  have HA := N_
  clear N_
  replace HA : Blk w7 p 89 #[.pointer (some ⟨pg, 0, none⟩), .pointer (some ⟨pf, 0, none⟩), .int .i64 u, .int .i64 a.s, .int .i64 (a.v : Int), .int .i64 a.i, .int .i64 (d : Int), .slice Ap (Rg.wayOf N E a.v d).length cp, .int .i64 a.n, .int .i64 a.n, .int .i64 a.l.u, .int .i64 a.l.q, .int .i64 a.l.s, .int .i64 a.l.n, .int .i64 a.l.e, .int .i64 a.r] := HA
  refine Fw.nil ?_
  refine Fw.end_ [] [] Try.results46 .nil ?_
  have e : Ag.head N E a d = { a with d := d, z := a.n, p := Rg.wayOf N E a.v d } := by unfold Ag.head; rw [if_neg (by omega)]
  rw [e]
  exact ⟨rfl, ⟨Ap, cp, HA, Fw.RdT.own HO, own_le HO, HF, HG⟩, HC⟩
  rintro hok
  refine Fw.nil ?_
  refine hK8 _ _ ?_
  refine Fw.condF rfl ?_
  refine Fw.skip ?_
  refine Fw.end_ [] [] Try.results46 .nil ?_
  have e : Ag.head N E a d = { a with d := d, z := a.n, p := Rg.wayOf N E a.v d } := by unfold Ag.head; rw [if_neg (by omega)]
  rw [e]
  have ez := hz (Classical.byContradiction (fun k => absurd (of_decide_eq_false hok) (fun q => q k)))
  rw [ez]
  exact ⟨rfl, ⟨none, 0, HA, Fw.RdT.nil _ _, Nat.zero_le _, HF, HG⟩, HC⟩

end Go.Proofs.Ytodhpooddmeghaa
