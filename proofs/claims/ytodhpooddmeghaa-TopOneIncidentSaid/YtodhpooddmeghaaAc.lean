/- Layer 29: the agent's methods. -/
import Derived.Test.YtodhpooddmeghaaAb
import Derived.Test.YtodhpooddmeghaaGj
namespace Go.Proofs.Ytodhpooddmeghaa
set_option linter.unusedSimpArgs false
set_option linter.unusedVariables false
open Go.RowKit

theorem head2_any (w : World) (p pf pg N : Nat) (E : List Rg.Ed) (u : Int) (a : Ag) (h : AgAt w p pf pg N E u a) (hn : Rg.Net N E) (hv : a.v < N) (d : Int) (hd : 0 ≤ d ∧ d < N) : Calls Try.prog 46 #[.pointer (some ⟨p, 0, none⟩), .int .i64 d] w fun e_ w' => e_ = .returned (.tuple #[]) ∧ AgAt w' p pf pg N E u (Ag.head N E a d.toNat) ∧ Chg (· = p) w w' := by
  obtain ⟨k, rfl⟩ : ∃ k : Nat, d = k := ⟨d.toNat, by omega⟩
  rw [Int.toNat_natCast]
  exact head_any w p pf pg N E u a h hn hv k (by omega)
set_option maxRecDepth 100000 in
set_option maxHeartbeats 1000000 in
theorem agIncident_any (w : World) (p pf pg N : Nat) (E : List Rg.Ed) (u : Int) (a : Ag) (h : AgAt w p pf pg N E u a) : Calls Try.prog 24 #[.pointer (some ⟨p, 0, none⟩)] w fun e_ w' => e_ = .returned (.int .i64 a.i) ∧ w = w' := by
  obtain ⟨A, c, HA, HP, hpc, HF, HG⟩ := h
  have hpl := HA.lt
  have hfl := Blk.lt HF
  have n_pf : p ≠ pf := Blk.ne_ HA HF (by decide)
  refine Fw.calls Try.func24 rfl Try.ntmps24 rfl ?_
  refine Fw.seq fun _ hK1 => ?_
  refine Fw.region ?_
  refine Fw.s (Fw.val_assign rfl) rfl ?_
  refine Fw.nil ?_
  refine hK1 _ _ ?_
  refine Fw.seq fun _ hK2 => ?_
  refine Fw.region ?_
  refine Fw.s (Fw.val_move rfl) rfl ?_
  refine Fw.s (Fw.val_nil rfl) rfl ?_
  refine Fw.s (Fw.val_fieldAddr fl89_5 rfl rfl) rfl ?_
  refine Fw.ld sc2 rfl (HA.cell 5) rfl ?_
  refine Fw.s (Fw.val_assign rfl) rfl ?_
  refine Fw.nil ?_
  refine hK2 _ _ ?_
  refine Fw.ret ?_
  refine Fw.ret_ [.tmp 2] [_] Try.results24 (.tmp rfl .nil) ?_
  exact ⟨rfl, rfl⟩

set_option maxRecDepth 100000 in
set_option maxHeartbeats 1000000 in
theorem agEpoch_any (w : World) (p pf pg N : Nat) (E : List Rg.Ed) (u : Int) (a : Ag) (h : AgAt w p pf pg N E u a) : Calls Try.prog 48 #[.pointer (some ⟨p, 0, none⟩)] w fun e_ w' => e_ = .returned (.int .i64 (Ag.epoch a)) ∧ Below w.heap.size w w' := by
  obtain ⟨A, c, HA, HP, hpc, HF, HG⟩ := h
  have hpl := HA.lt
  have hfl := Blk.lt HF
  have n_pf : p ≠ pf := Blk.ne_ HA HF (by decide)
  refine Fw.calls Try.func48 rfl Try.ntmps48 rfl ?_
  have HB := Below.refl (w.heap.size) w
  refine Fw.seq fun _ hK1 => ?_
  refine Fw.region ?_
  refine Fw.s (Fw.val_assign rfl) rfl ?_
  refine Fw.nil ?_
  refine hK1 _ _ ?_
  refine Fw.seq fun _ hK2 => ?_
  refine Fw.seq fun _ hK3 => ?_
  refine Fw.region ?_
  refine Fw.s (Fw.val_move rfl) rfl ?_
  refine Fw.s (Fw.val_nil rfl) rfl ?_
  refine Fw.s (Fw.val_fieldAddr fl89_1 rfl rfl) rfl ?_
  refine Fw.ld sc85 rfl ((HA.low HB).cell 1) rfl ?_
  refine Fw.s (Fw.val_bin rfl rfl (Fw.b_nilP Try.underlying85)) rfl ?_
  refine Fw.nil ?_
  refine hK3 _ _ ?_
  refine Fw.condF rfl ?_
  refine Fw.skip ?_
  refine hK2 _ _ ?_
  refine Fw.seq fun _ hK4 => ?_
  refine Fw.seq fun _ hK5 => ?_
  refine Fw.region ?_
  refine Fw.s (Fw.val_move rfl) rfl ?_
  refine Fw.s (Fw.val_nil rfl) rfl ?_
  refine Fw.s (Fw.val_fieldAddr fl89_1 rfl rfl) rfl ?_
  refine Fw.ld sc85 rfl ((HA.low HB).cell 1) rfl ?_
  refine Fw.call cf61 rfl rfl (latest_any pf a.f _ (FenceAt.low HF HB)) ?_
  rintro e_ w1 ⟨rfl, hb⟩
  refine ⟨_, rfl, ?_⟩
  replace HB := HB.trans (hb.mono HB.size)
  clear hb
  refine Fw.s (Fw.val_move rfl) rfl ?_
  refine Fw.s (Fw.val_extract rfl rfl) rfl ?_
  refine Fw.s (Fw.val_extract rfl rfl) rfl ?_
  refine Fw.alloc ze50 rfl ?_
  intro w2 gx egx Hx hb
  have lgx : w.heap.size ≤ gx := by have := HB.size; omega
  replace HB := HB.trans (hb.mono HB.size)
  clear hb
  clear egx
  refine Fw.storeW sz50 rfl rfl Hx rfl rfl (by exact Fw.oneCells rfl) ?_
  intro w3 N_ hc
  replace HB := HB.trans (hc.below (B := w.heap.size) (fun k e => by omega) HB.size)
  clear hc
  clear Hx
  have Hx := N_
  clear N_
  replace Hx : Blk w3 gx 50 #[.int .i64 a.f.o.u, .int .i64 a.f.o.e, .int .i64 a.f.o.k, .int .i64 a.f.o.i, .int .i64 a.f.o.n] := Hx
  refine Fw.s (Fw.val_assign rfl) rfl ?_
  refine Fw.nil ?_
  refine hK5 _ _ (Fw.FC.sub (f' := [(4, _), (3, _)]) (.cons rfl (.cons rfl .nil)) ?_)
  refine Fw.seq fun _ hK6 => ?_
  refine Fw.region ?_
  refine Fw.s (Fw.val_move rfl) rfl ?_
  refine Fw.b2 ?_ ?_
  rintro hfa
  refine Fw.nil ?_
  refine hK6 _ _ ?_
  refine Fw.condT rfl ?_
  refine Fw.seq fun _ hK7 => ?_
  refine Fw.region ?_
  refine Fw.s (Fw.val_fieldAddr fl50_1 rfl rfl) rfl ?_
  refine Fw.ld sc2 rfl (Hx.cell 1) rfl ?_
  refine Fw.s (Fw.val_assign rfl) rfl ?_
  refine Fw.nil ?_
  refine hK7 _ _ ?_
  refine Fw.ret ?_
  refine Fw.X_ret ?_
  refine Fw.ret_ [.tmp 2] [_] Try.results48 (.tmp rfl .nil) ?_
  have e : Ag.epoch a = a.f.o.e := if_pos hfa
  rw [e]
  exact ⟨rfl, HB⟩
  rintro hfa
  refine Fw.nil ?_
  refine hK6 _ _ ?_
  refine Fw.condF rfl ?_
  refine Fw.skip ?_
  refine hK4 _ _ ?_
  refine Fw.seq fun _ hK8 => ?_
  refine Fw.region ?_
  refine Fw.s (Fw.val_assign rfl) rfl ?_
  refine Fw.nil ?_
  refine hK8 _ _ ?_
  refine Fw.ret ?_
  refine Fw.ret_ [.tmp 2] [_] Try.results48 (.tmp rfl .nil) ?_
  have e : Ag.epoch a = 0 := if_neg (by rw [hfa]; decide)
  rw [e]
  exact ⟨rfl, HB⟩

set_option maxRecDepth 100000 in
set_option maxHeartbeats 1000000 in
theorem advance_any (w : World) (p pf pg N : Nat) (E : List Rg.Ed) (u : Int) (a : Ag) (h : AgAt w p pf pg N E u a) (hg : Ag.Good N E u a) (t : Int) : Calls Try.prog 8 #[.pointer (some ⟨p, 0, none⟩), .int .i64 t] w fun e_ w' => e_ = .returned (.tuple #[]) ∧ AgAt w' p pf pg N E u (Ag.pass E a t) ∧ Chg (· = p) w w' := by
  obtain ⟨A, c, HA, HP, hpc, HF, HG⟩ := h
  have hpl := HA.lt
  have hfl := Blk.lt HF
  have n_pf : p ≠ pf := Blk.ne_ HA HF (by decide)
  refine Fw.calls Try.func8 rfl Try.ntmps8 rfl ?_
  have HC := Chg.refl (· = p) w
  refine Fw.region ?_
  refine Fw.s (Fw.val_move rfl) rfl ?_
  refine Fw.s (Fw.val_move rfl) rfl ?_
  refine Fw.call cf31 rfl rfl (pass_any _ p pf pg N E u a ⟨A, c, HA, HP, hpc, HF, HG⟩ hg t) ?_
  rintro e_ w1 ⟨rfl, H2, hc⟩
  refine ⟨_, rfl, ?_⟩
  replace HC := HC.trans hc (fun k hk_ e => by first | exact e | (left; exact e) | (right; exact e) | (exfalso; omega))
  clear hc
  clear HA HP HF HG
  refine Fw.nil ?_
  refine Fw.end_ [] [] Try.results8 .nil ?_
  exact ⟨rfl, H2, HC⟩

set_option maxRecDepth 100000 in
set_option maxHeartbeats 1000000 in
theorem proceed_any (w : World) (p pf pg N : Nat) (E : List Rg.Ed) (u : Int) (a : Ag) (h : AgAt w p pf pg N E u a) (hg : Ag.Good N E u a) (t : Int) : Calls Try.prog 21 #[.pointer (some ⟨p, 0, none⟩), .int .i64 t] w fun e_ w' => e_ = .returned (.int .i64 (Ag.proceedE E a t)) ∧ AgAt w' p pf pg N E u (Ag.proceed E a t) ∧ Chg (· = p) w w' := by
  obtain ⟨A, c, HA, HP, hpc, HF, HG⟩ := h
  have hpl := HA.lt
  have hfl := Blk.lt HF
  have n_pf : p ≠ pf := Blk.ne_ HA HF (by decide)
  refine Fw.calls Try.func21 rfl Try.ntmps21 rfl ?_
  have HC := Chg.refl (· = p) w
  refine Fw.seq fun _ hK1 => ?_
  refine Fw.region ?_
  refine Fw.s (Fw.val_assign rfl) rfl ?_
  refine Fw.nil ?_
  refine hK1 _ _ ?_
  refine Fw.seq fun _ hK2 => ?_
  refine Fw.region ?_
  refine Fw.s (Fw.val_move rfl) rfl ?_
  refine Fw.s (Fw.val_move rfl) rfl ?_
  refine Fw.call cf31 rfl rfl (pass_any _ p pf pg N E u a ⟨A, c, HA, HP, hpc, HF, HG⟩ hg t) ?_
  rintro e_ w1 ⟨rfl, H2, hc⟩
  refine ⟨_, rfl, ?_⟩
  replace HC := HC.trans hc (fun k hk_ e => by first | exact e | (left; exact e) | (right; exact e) | (exfalso; omega))
  clear hc
  clear HA HP HF HG
  obtain ⟨b, hb_⟩ : ∃ b_, b_ = Ag.pass E a t := ⟨_, rfl⟩
  rw [← hb_] at H2
  obtain ⟨A2, c2, HA, HP, hpcb, HF, HG⟩ := H2
  have hgb : Ag.Good N E u b := by rw [hb_]; exact hg.pass t
  refine Fw.nil ?_
  refine hK2 _ _ ?_
  refine Fw.seq fun _ hK3 => ?_
  refine Fw.seq fun _ hK4 => ?_
  refine Fw.region ?_
  refine Fw.s (Fw.val_move rfl) rfl ?_
  refine Fw.s (Fw.val_nil rfl) rfl ?_
  refine Fw.s (Fw.val_fieldAddr fl89_3 rfl rfl) rfl ?_
  refine Fw.ld sc3 rfl (HA.cell 3) rfl ?_
  refine Fw.nil ?_
  refine hK4 _ _ (Fw.FC.sub (f' := [(11, _), (0, _)]) (.cons rfl (.cons rfl .nil)) ?_)
  refine Fw.block ?_
  refine Fw.seq fun _ hK5 => ?_
  refine Fw.region ?_
  refine Fw.s2 (Fw.val_bin rfl rfl Fw.b_eql) rfl ?_ ?_
  rintro h4
  refine Fw.s (Fw.val_assign rfl) rfl ?_
  refine Fw.nil ?_
  refine hK5 _ _ ?_
  refine Fw.condT rfl ?_
  refine Fw.region ?_
  refine Fw.s (Fw.val_move rfl) rfl ?_
  refine Fw.s (Fw.val_nil rfl) rfl ?_
  refine Fw.s (Fw.val_fieldAddr fl89_3 rfl rfl) rfl ?_
  refine Fw.store sz3 rfl rfl HA rfl rfl rfl ?_
  intro w2 N_ hc
  replace HF := HF.chg hc (by omega)
  replace HP := HP.chg hc (Fw.RdT.ne_ HP HA (by decide))
  replace HG := HG.kp ((Fw.Kp.refl [89] _).one hc HA rfl) rfl rfl rfl rfl
  replace HC := HC.trans hc (fun k hk_ e => by first | exact e | (left; exact e) | (right; exact e) | (exfalso; omega))
  clear hc
  clear HA
  have HA := N_
  clear N_
  replace HA : Blk w2 p 89 #[.pointer (some ⟨pg, 0, none⟩), .pointer (some ⟨pf, 0, none⟩), .int .i64 u, .int .i64 5, .int .i64 (b.v : Int), .int .i64 b.i, .int .i64 (b.d : Int), .slice A2 b.p.length c2, .int .i64 b.z, .int .i64 b.n, .int .i64 b.l.u, .int .i64 b.l.q, .int .i64 b.l.s, .int .i64 b.l.n, .int .i64 b.l.e, .int .i64 b.r] := HA
  refine Fw.nil ?_
  refine Fw.X_blockN ?_
  refine hK3 _ _ (Fw.FC.sub (f' := []) .nil ?_)
  refine Fw.seq fun _ hK7 => ?_
  refine Fw.region ?_
  refine Fw.s (Fw.val_assign rfl) rfl ?_
  refine Fw.nil ?_
  refine hK7 _ _ ?_
  refine Fw.ret ?_
  refine Fw.ret_ [.tmp 4] [_] Try.results21 (.tmp rfl .nil) ?_
  have e1 : Ag.proceed E a t = { b with s := 5 } := by unfold Ag.proceed; rw [← hb_, if_pos h4]
  have e2 : Ag.proceedE E a t = 0 := by unfold Ag.proceedE; rw [← hb_, if_pos (.inl h4)]
  rw [e1, e2]
  exact ⟨rfl, ⟨A2, c2, HA, HP, hpcb, HF, HG⟩, HC⟩
  rintro h4
  refine Fw.s (Fw.val_assign rfl) rfl ?_
  refine Fw.nil ?_
  refine hK5 _ _ ?_
  refine Fw.condF rfl ?_
  refine Fw.seq fun _ hK8 => ?_
  refine Fw.region ?_
  refine Fw.s2 (Fw.val_bin rfl rfl Fw.b_eql) rfl ?_ ?_
  rintro h5
  refine Fw.s (Fw.val_assign rfl) rfl ?_
  refine Fw.nil ?_
  refine hK8 _ _ ?_
  refine Fw.condT rfl ?_
  refine Fw.seq fun _ hK10 => ?_
  refine Fw.region ?_
  refine Fw.s (Fw.val_move rfl) rfl ?_
  refine Fw.s (Fw.val_nil rfl) rfl ?_
  refine Fw.s (Fw.val_fieldAddr fl89_3 rfl rfl) rfl ?_
  refine Fw.store sz3 rfl rfl HA rfl rfl rfl ?_
  intro w3 N_ hc
  replace HF := HF.chg hc (by omega)
  replace HP := HP.chg hc (Fw.RdT.ne_ HP HA (by decide))
  replace HG := HG.kp ((Fw.Kp.refl [89] _).one hc HA rfl) rfl rfl rfl rfl
  replace HC := HC.trans hc (fun k hk_ e => by first | exact e | (left; exact e) | (right; exact e) | (exfalso; omega))
  clear hc
  clear HA
  have HA := N_
  clear N_
  replace HA : Blk w3 p 89 #[.pointer (some ⟨pg, 0, none⟩), .pointer (some ⟨pf, 0, none⟩), .int .i64 u, .int .i64 1, .int .i64 (b.v : Int), .int .i64 b.i, .int .i64 (b.d : Int), .slice A2 b.p.length c2, .int .i64 b.z, .int .i64 b.n, .int .i64 b.l.u, .int .i64 b.l.q, .int .i64 b.l.s, .int .i64 b.l.n, .int .i64 b.l.e, .int .i64 b.r] := HA
  refine Fw.nil ?_
  refine hK10 _ _ (Fw.FC.sub (f' := [(0, _)]) (.cons rfl .nil) ?_)
  refine Fw.region ?_
  refine Fw.s (Fw.val_move rfl) rfl ?_
  refine Fw.s (Fw.val_nil rfl) rfl ?_
  refine Fw.s (Fw.val_fieldAddr fl89_5 rfl rfl) rfl ?_
  refine Fw.store sz2 rfl rfl HA rfl rfl rfl ?_
  intro w4 N_ hc
  replace HF := HF.chg hc (by omega)
  replace HP := HP.chg hc (Fw.RdT.ne_ HP HA (by decide))
  replace HG := HG.kp ((Fw.Kp.refl [89] _).one hc HA rfl) rfl rfl rfl rfl
  replace HC := HC.trans hc (fun k hk_ e => by first | exact e | (left; exact e) | (right; exact e) | (exfalso; omega))
  clear hc
  clear HA
  have HA := N_
  clear N_
  replace HA : Blk w4 p 89 #[.pointer (some ⟨pg, 0, none⟩), .pointer (some ⟨pf, 0, none⟩), .int .i64 u, .int .i64 1, .int .i64 (b.v : Int), .int .i64 0, .int .i64 (b.d : Int), .slice A2 b.p.length c2, .int .i64 b.z, .int .i64 b.n, .int .i64 b.l.u, .int .i64 b.l.q, .int .i64 b.l.s, .int .i64 b.l.n, .int .i64 b.l.e, .int .i64 b.r] := HA
  refine Fw.nil ?_
  refine Fw.X_blockN ?_
  refine hK3 _ _ ?_
  refine Fw.seq fun _ hK11 => ?_
  refine Fw.region ?_
  refine Fw.s (Fw.val_assign rfl) rfl ?_
  refine Fw.nil ?_
  refine hK11 _ _ ?_
  refine Fw.ret ?_
  refine Fw.ret_ [.tmp 4] [_] Try.results21 (.tmp rfl .nil) ?_
  have e1 : Ag.proceed E a t = { b with s := 1, i := 0 } := by unfold Ag.proceed; rw [← hb_, if_neg h4, if_pos h5]
  have e2 : Ag.proceedE E a t = 0 := by unfold Ag.proceedE; rw [← hb_, if_pos (.inr h5)]
  rw [e1, e2]
  exact ⟨rfl, ⟨A2, c2, HA, HP, hpcb, HF, HG⟩, HC⟩
  rintro h5
  refine Fw.s (Fw.val_assign rfl) rfl ?_
  refine Fw.nil ?_
  refine hK8 _ _ ?_
  refine Fw.condF rfl ?_
  refine Fw.seq fun _ hK12 => ?_
  refine Fw.region ?_
  refine Fw.s (Fw.val_assign rfl) rfl ?_
  refine Fw.nil ?_
  refine hK12 _ _ ?_
  refine Fw.ret ?_
  refine Fw.X_blockR ?_
  refine Fw.X_ret ?_
  refine Fw.ret_ [.tmp 4] [_] Try.results21 (.tmp rfl .nil) ?_
  have e1 : Ag.proceed E a t = b := by unfold Ag.proceed; rw [← hb_, if_neg h4, if_neg h5]
  have e2 : Ag.proceedE E a t = 8 := by unfold Ag.proceedE; rw [← hb_, if_neg (by omega)]
  rw [e1, e2]
  exact ⟨rfl, ⟨A2, c2, HA, HP, hpcb, HF, HG⟩, HC⟩

set_option maxRecDepth 100000 in
set_option maxHeartbeats 1000000 in
theorem toggle_any (w : World) (p pf pg N : Nat) (E : List Rg.Ed) (u : Int) (a : Ag) (h : AgAt w p pf pg N E u a) (hg : Ag.Good N E u a) (t : Int) : Calls Try.prog 22 #[.pointer (some ⟨p, 0, none⟩), .int .i64 t] w fun e_ w' => e_ = .returned (.int .i64 (Ag.toggleE E a t)) ∧ AgAt w' p pf pg N E u (Ag.toggle N E a t) ∧ Chg (· = p) w w' := by
  obtain ⟨A, c, HA, HP, hpc, HF, HG⟩ := h
  have hpl := HA.lt
  have hfl := Blk.lt HF
  have n_pf : p ≠ pf := Blk.ne_ HA HF (by decide)
  refine Fw.calls Try.func22 rfl Try.ntmps22 rfl ?_
  have HC := Chg.refl (· = p) w
  refine Fw.seq fun _ hK1 => ?_
  refine Fw.region ?_
  refine Fw.s (Fw.val_assign rfl) rfl ?_
  refine Fw.nil ?_
  refine hK1 _ _ ?_
  refine Fw.seq fun _ hK2 => ?_
  refine Fw.region ?_
  refine Fw.s (Fw.val_move rfl) rfl ?_
  refine Fw.s (Fw.val_move rfl) rfl ?_
  refine Fw.call cf31 rfl rfl (pass_any _ p pf pg N E u a ⟨A, c, HA, HP, hpc, HF, HG⟩ hg t) ?_
  rintro e_ w1 ⟨rfl, H2, hc⟩
  refine ⟨_, rfl, ?_⟩
  replace HC := HC.trans hc (fun k hk_ e => by first | exact e | (left; exact e) | (right; exact e) | (exfalso; omega))
  clear hc
  clear HA HP HF HG
  obtain ⟨b, hb_⟩ : ∃ b_, b_ = Ag.pass E a t := ⟨_, rfl⟩
  rw [← hb_] at H2
  obtain ⟨A2, c2, HA, HP, hpcb, HF, HG⟩ := H2
  have hgb : Ag.Good N E u b := by rw [hb_]; exact hg.pass t
  refine Fw.nil ?_
  refine hK2 _ _ ?_
  refine Fw.seq fun _ hK3 => ?_
  refine Fw.seq fun _ hK4 => ?_
  refine Fw.region ?_
  refine Fw.s (Fw.val_move rfl) rfl ?_
  refine Fw.s (Fw.val_nil rfl) rfl ?_
  refine Fw.s (Fw.val_fieldAddr fl89_3 rfl rfl) rfl ?_
  refine Fw.ld sc3 rfl (HA.cell 3) rfl ?_
  refine Fw.nil ?_
  refine hK4 _ _ (Fw.FC.sub (f' := [(11, _), (0, _)]) (.cons rfl (.cons rfl .nil)) ?_)
  refine Fw.block ?_
  refine Fw.seq fun _ hK5 => ?_
  refine Fw.region ?_
  refine Fw.s2 (Fw.val_bin rfl rfl Fw.b_eql) rfl ?_ ?_
  rintro h4
  refine Fw.s (Fw.val_assign rfl) rfl ?_
  refine Fw.nil ?_
  refine hK5 _ _ ?_
  refine Fw.condT rfl ?_
  refine Fw.seq fun _ hK7 => ?_
  refine Fw.region ?_
  refine Fw.s (Fw.val_move rfl) rfl ?_
  refine Fw.s (Fw.val_nil rfl) rfl ?_
  refine Fw.s (Fw.val_fieldAddr fl89_3 rfl rfl) rfl ?_
  refine Fw.store sz3 rfl rfl HA rfl rfl rfl ?_
  intro w2 N_ hc
  replace HF := HF.chg hc (by omega)
  replace HP := HP.chg hc (Fw.RdT.ne_ HP HA (by decide))
  replace HG := HG.kp ((Fw.Kp.refl [89] _).one hc HA rfl) rfl rfl rfl rfl
  replace HC := HC.trans hc (fun k hk_ e => by first | exact e | (left; exact e) | (right; exact e) | (exfalso; omega))
  clear hc
  clear HA
  have HA := N_
  clear N_
  replace HA : Blk w2 p 89 #[.pointer (some ⟨pg, 0, none⟩), .pointer (some ⟨pf, 0, none⟩), .int .i64 u, .int .i64 6, .int .i64 (b.v : Int), .int .i64 b.i, .int .i64 (b.d : Int), .slice A2 b.p.length c2, .int .i64 b.z, .int .i64 b.n, .int .i64 b.l.u, .int .i64 b.l.q, .int .i64 b.l.s, .int .i64 b.l.n, .int .i64 b.l.e, .int .i64 b.r] := HA
  refine Fw.nil ?_
  refine hK7 _ _ ?_
  refine Fw.region ?_
  refine Fw.s (Fw.val_move rfl) rfl ?_
  refine Fw.s (Fw.val_move rfl) rfl ?_
  refine Fw.s (Fw.val_nil rfl) rfl ?_
  refine Fw.s (Fw.val_fieldAddr fl89_4 rfl rfl) rfl ?_
  refine Fw.ld sc3 rfl (HA.cell 4) rfl ?_
  refine Fw.call cf46 rfl rfl (head_any _ p pf pg N E u { b with s := 6 } ⟨A2, c2, HA, HP, hpcb, HF, HG⟩ hgb.net hgb.v b.v (hgb.v)) ?_
  rintro e_ w3 ⟨rfl, H2, hc⟩
  refine ⟨_, rfl, ?_⟩
  replace HC := HC.trans hc (fun k hk_ e => by first | exact e | (left; exact e) | (right; exact e) | (exfalso; omega))
  clear hc
  clear HA HP HF HG
  obtain ⟨b2, hb2_⟩ : ∃ b_, b_ = Ag.head N E { b with s := 6 } b.v := ⟨_, rfl⟩
  rw [← hb2_] at H2
  obtain ⟨A3, c3, HA, HP, hpcb2, HF, HG⟩ := H2
  refine Fw.nil ?_
  refine Fw.X_blockN ?_
  refine hK3 _ _ (Fw.FC.sub (f' := []) .nil ?_)
  refine Fw.seq fun _ hK8 => ?_
  refine Fw.region ?_
  refine Fw.s (Fw.val_assign rfl) rfl ?_
  refine Fw.nil ?_
  refine hK8 _ _ ?_
  refine Fw.ret ?_
  refine Fw.ret_ [.tmp 4] [_] Try.results22 (.tmp rfl .nil) ?_
  have e1 : Ag.toggle N E a t = b2 := by unfold Ag.toggle; rw [← hb_, if_pos h4, hb2_]
  have e2 : Ag.toggleE E a t = 0 := by unfold Ag.toggleE; rw [← hb_, if_pos (.inl h4)]
  rw [e1, e2]
  exact ⟨rfl, ⟨A3, c3, HA, HP, hpcb2, HF, HG⟩, HC⟩
  rintro h4
  refine Fw.s (Fw.val_assign rfl) rfl ?_
  refine Fw.nil ?_
  refine hK5 _ _ ?_
  refine Fw.condF rfl ?_
  refine Fw.seq fun _ hK9 => ?_
  refine Fw.region ?_
  refine Fw.s2 (Fw.val_bin rfl rfl Fw.b_eql) rfl ?_ ?_
  rintro h5
  refine Fw.s (Fw.val_assign rfl) rfl ?_
  refine Fw.nil ?_
  refine hK9 _ _ ?_
  refine Fw.condT rfl ?_
  refine Fw.region ?_
  refine Fw.s (Fw.val_move rfl) rfl ?_
  refine Fw.s (Fw.val_nil rfl) rfl ?_
  refine Fw.s (Fw.val_fieldAddr fl89_3 rfl rfl) rfl ?_
  refine Fw.store sz3 rfl rfl HA rfl rfl rfl ?_
  intro w4 N_ hc
  replace HF := HF.chg hc (by omega)
  replace HP := HP.chg hc (Fw.RdT.ne_ HP HA (by decide))
  replace HG := HG.kp ((Fw.Kp.refl [89] _).one hc HA rfl) rfl rfl rfl rfl
  replace HC := HC.trans hc (fun k hk_ e => by first | exact e | (left; exact e) | (right; exact e) | (exfalso; omega))
  clear hc
  clear HA
  have HA := N_
  clear N_
  replace HA : Blk w4 p 89 #[.pointer (some ⟨pg, 0, none⟩), .pointer (some ⟨pf, 0, none⟩), .int .i64 u, .int .i64 1, .int .i64 (b.v : Int), .int .i64 b.i, .int .i64 (b.d : Int), .slice A2 b.p.length c2, .int .i64 b.z, .int .i64 b.n, .int .i64 b.l.u, .int .i64 b.l.q, .int .i64 b.l.s, .int .i64 b.l.n, .int .i64 b.l.e, .int .i64 b.r] := HA
  refine Fw.nil ?_
  refine Fw.X_blockN ?_
  refine hK3 _ _ (Fw.FC.sub (f' := []) .nil ?_)
  refine Fw.seq fun _ hK11 => ?_
  refine Fw.region ?_
  refine Fw.s (Fw.val_assign rfl) rfl ?_
  refine Fw.nil ?_
  refine hK11 _ _ ?_
  refine Fw.ret ?_
  refine Fw.ret_ [.tmp 4] [_] Try.results22 (.tmp rfl .nil) ?_
  have e1 : Ag.toggle N E a t = { b with s := 1 } := by unfold Ag.toggle; rw [← hb_, if_neg h4, if_pos h5]
  have e2 : Ag.toggleE E a t = 0 := by unfold Ag.toggleE; rw [← hb_, if_pos (.inr h5)]
  rw [e1, e2]
  exact ⟨rfl, ⟨A2, c2, HA, HP, hpcb, HF, HG⟩, HC⟩
  rintro h5
  refine Fw.s (Fw.val_assign rfl) rfl ?_
  refine Fw.nil ?_
  refine hK9 _ _ ?_
  refine Fw.condF rfl ?_
  refine Fw.seq fun _ hK12 => ?_
  refine Fw.region ?_
  refine Fw.s (Fw.val_assign rfl) rfl ?_
  refine Fw.nil ?_
  refine hK12 _ _ ?_
  refine Fw.ret ?_
  refine Fw.X_blockR ?_
  refine Fw.X_ret ?_
  refine Fw.ret_ [.tmp 4] [_] Try.results22 (.tmp rfl .nil) ?_
  have e1 : Ag.toggle N E a t = b := by unfold Ag.toggle; rw [← hb_, if_neg h4, if_neg h5]
  have e2 : Ag.toggleE E a t = 8 := by unfold Ag.toggleE; rw [← hb_, if_neg (by omega)]
  rw [e1, e2]
  exact ⟨rfl, ⟨A2, c2, HA, HP, hpcb, HF, HG⟩, HC⟩

set_option maxRecDepth 100000 in
set_option maxHeartbeats 4000000 in
theorem receive_any (w : World) (p pf pg N : Nat) (E : List Rg.Ed) (u : Int) (a : Ag) (h : AgAt w p pf pg N E u a) (hg : Ag.Good N E u a) (o : Or.O) (t : Int) : Calls Try.prog 16 #[.pointer (some ⟨p, 0, none⟩), .agg #[.int .i64 o.u, .int .i64 o.e, .int .i64 o.k, .int .i64 o.i, .int .i64 o.n], .int .i64 t] w fun e_ w' => e_ = .returned (.tuple #[.bool (Ag.recvB N u a o), .int .i64 (Ag.recvE N u o)]) ∧ AgAt w' p pf pg N E u (Ag.recv N E u a o t) ∧ Chg (fun k => k = p ∨ k = pf) w w' := by
  obtain ⟨A, c, HA, HP, hpc, HF, HG⟩ := h
  have hpl := HA.lt
  have hfl := Blk.lt HF
  have n_pf : p ≠ pf := Blk.ne_ HA HF (by decide)
  refine Fw.calls Try.func16 rfl Try.ntmps16 rfl ?_
  have HC := Chg.refl (fun k => k = p ∨ k = pf) w
  refine Fw.seq fun _ hK1 => ?_
  refine Fw.region ?_
  refine Fw.box rfl rfl ?_
  intro w1 gx egx Hx hb
  have n_p_gx : p < gx := by have := HA.lt; omega
  have n_pf_gx : pf < gx := by have := HF.lt; omega
  have lgx : w.heap.size ≤ gx := by have := HC.size; omega
  replace HA := HA.low hb
  replace HF := HF.low hb
  replace HP := HP.low hb
  replace HG := HG.low hb
  replace HC := HC.trans (Chg.of_below hb (fun k => k = p ∨ k = pf)) (fun _ _ h => h)
  clear hb
  clear egx
  refine Fw.s (Fw.val_assign rfl) rfl ?_
  refine Fw.s (Fw.val_assign rfl) rfl ?_
  refine Fw.nil ?_
  refine hK1 _ _ ?_
  refine Fw.seq fun _ hK2 => ?_
  refine Fw.seq fun _ hK3 => ?_
  refine Fw.region ?_
  refine Fw.s (Fw.val_move rfl) rfl ?_
  refine Fw.ldA ag50 rfl (Fw.rdBlk Hx) rfl rfl ?_
  refine Fw.call cf44 rfl rfl (admissible_any _ p pf pg N E u a ⟨A, c, HA, HP, hpc, HF, HG⟩ o) ?_
  rintro e_ w2 ⟨rfl, hb⟩
  refine ⟨_, rfl, ?_⟩
  replace HA := HA.low hb
  replace HF := HF.low hb
  replace HP := HP.low hb
  replace HG := HG.low hb
  replace Hx := Hx.low hb
  replace HC := HC.trans (Chg.of_below hb (fun k => k = p ∨ k = pf)) (fun _ _ h => h)
  clear hb
  refine Fw.b2 ?_ ?_
  rintro hadm
  refine Fw.s (Fw.val_not rfl) rfl ?_
  refine Fw.nil ?_
  refine hK3 _ _ (Fw.FC.sub (f' := [(13, _), (4, _), (0, _), (2, _)]) (.cons rfl (.cons rfl (.cons rfl (.cons rfl .nil)))) ?_)
  refine Fw.condF rfl ?_
  refine Fw.skip ?_
  refine hK2 _ _ ?_
  refine Fw.seq fun _ hK4 => ?_
  have hov := Ag.adm_valid hadm
  have hvn := Ag.valid_node hov.1
  refine Fw.region ?_
  refine Fw.s (Fw.val_move rfl) rfl ?_
  refine Fw.s (Fw.val_move rfl) rfl ?_
  refine Fw.call cf31 rfl rfl (pass_any _ p pf pg N E u a ⟨A, c, HA, HP, hpc, HF, HG⟩ hg t) ?_
  rintro e_ w3 ⟨rfl, H2, hc⟩
  refine ⟨_, rfl, ?_⟩
  replace Hx := Hx.chg hc (by omega)
  replace HC := HC.trans hc (fun k hk_ e => by first | exact e | (left; exact e) | (right; exact e) | (exfalso; omega))
  clear hc
  clear HA HP HF HG
  obtain ⟨b, hb_⟩ : ∃ b_, b_ = Ag.pass E a t := ⟨_, rfl⟩
  rw [← hb_] at H2
  obtain ⟨A2, c2, HA, HP, hpcb, HF, HG⟩ := H2
  have hgb : Ag.Good N E u b := by rw [hb_]; exact hg.pass t
  refine Fw.nil ?_
  refine hK4 _ _ ?_
  refine Fw.seq fun _ hK5 => ?_
  refine Fw.seq fun _ hK6 => ?_
  refine Fw.regionHS (Chg (· = pf) w3) (by kernel_rfl) (Chg.of_below (Fw.drew_low w3) _) ?_
  have R_HA := HA
  have R_HF := HF
  have R_HG := HG
  have R_Hx := Hx
  intro w4 hb HS
  replace HA := HA.low hb
  replace HF := HF.low hb
  replace HP := HP.low hb
  replace HG := HG.low hb
  replace Hx := Hx.low hb
  replace HC := HC.trans (Chg.of_below hb (fun k => k = p ∨ k = pf)) (fun _ _ h => h)
  clear hb
  refine Fw.hTk 0 rfl rfl (Fw.yV (Fw.val_move rfl)) rfl ?_
  refine Fw.hTk 1 rfl rfl (Fw.yV (Fw.val_nil rfl)) rfl ?_
  refine Fw.hTk 2 rfl rfl (Fw.yV (Fw.val_fieldAddr fl89_1 rfl rfl)) rfl ?_
  refine Fw.hTk 3 rfl rfl (Fw.yV (Fw.hLdC sc85 rfl (R_HA.cell 1) (by show ¬ p = pf; omega))) rfl ?_
  refine Fw.hTk 4 rfl rfl (Fw.yV (Fw.val_loadA ag50 rfl (fun _ h_ => Fw.rdBlk (R_Hx.chg h_ (by show ¬ gx = pf; omega))) rfl)) rfl ?_
  refine Fw.hAll1 5 (by kernel_rfl) ?_
  refine Fw.hOp 5 rfl ?_
  refine Fw.call cf45 rfl rfl (accept_any pf b.f o _ HF) ?_
  rintro e_ w5 ⟨rfl, HF2, hc⟩
  refine ⟨_, rfl, ?_⟩
  replace HA := HA.chg hc (by omega)
  replace HP := HP.chg hc (Fw.RdT.ne_ HP HF (by decide))
  replace HG := HG.kp ((Fw.Kp.refl [109] _).one hc HF rfl) rfl rfl rfl rfl
  replace Hx := Hx.chg hc (by omega)
  replace HS := HS.trans hc (fun _ _ h => h)
  replace HC := HC.trans hc (fun k hk_ e => by first | exact e | (left; exact e) | (right; exact e) | (exfalso; omega))
  clear hc
  clear HF
  have HF := HF2
  clear HF2
  have hAE : Or.accE b.f o = 0 := by unfold Or.accE Or.refused; rw [hov.1, hgb.fu, hov.2.1]; simp
  refine Fw.hNext HS ?_
  refine Fw.hTk 6 rfl rfl (Fw.yV (Fw.val_move rfl)) rfl ?_
  refine Fw.hTk 7 rfl rfl (Fw.yV (Fw.val_extract rfl rfl)) rfl ?_
  refine Fw.hTk 8 rfl rfl (Fw.yV (Fw.val_extract rfl rfl)) rfl ?_
  refine Fw.hTk 9 rfl rfl (Fw.yV (Fw.val_assign rfl)) rfl ?_
  refine Fw.hTk 10 rfl rfl (Fw.yV (Fw.val_assign rfl)) rfl ?_
  refine Fw.hDone (by kernel_rfl) ?_
  refine hK6 _ _ (Fw.FC.sub (f' := [(9, _), (8, _), (4, _), (0, _)]) (.cons rfl (.cons rfl (.cons rfl (.cons rfl .nil)))) ?_)
  refine Fw.seq fun _ hK7 => ?_
  refine Fw.region ?_
  refine Fw.s (Fw.val_move rfl) rfl ?_
  refine Fw.b2 ?_ ?_
  rintro hacc
  refine Fw.s (Fw.val_not rfl) rfl ?_
  refine Fw.s (Fw.val_move rfl) rfl ?_
  refine Fw.gT (d := 28) rfl rfl ?_
  refine Fw.s (Fw.val_move rfl) rfl ?_
  refine Fw.gT (d := 28) rfl rfl ?_
  refine Fw.s (Fw.Val.F (Fw.val_bin rfl rfl Fw.b_neq) (by rw [hAE]; decide)) rfl ?_
  refine Fw.s (Fw.val_pickF rfl rfl) rfl ?_
  refine Fw.nil ?_
  refine hK7 _ _ (Fw.FC.sub (f' := [(31, _), (4, _), (0, _)]) (.cons rfl (.cons rfl (.cons rfl .nil))) ?_)
  refine Fw.condF rfl ?_
  refine Fw.skip ?_
  refine hK5 _ _ ?_
  refine Fw.seq fun _ hK8 => ?_
  refine Fw.seq fun _ hK9 => ?_
  refine Fw.region ?_
  refine Fw.s (Fw.val_move rfl) rfl ?_
  refine Fw.s (Fw.val_nil rfl) rfl ?_
  refine Fw.s (Fw.val_fieldAddr fl89_3 rfl rfl) rfl ?_
  refine Fw.ld sc3 rfl (HA.cell 3) rfl ?_
  refine Fw.s2 (Fw.val_bin rfl rfl Fw.b_eql) rfl ?_ ?_
  rintro h6
  refine Fw.nil ?_
  refine hK9 _ _ ?_
  refine Fw.condT rfl ?_
  refine Fw.seq fun _ hK11 => ?_
  refine Fw.region ?_
  refine Fw.s (Fw.val_assign rfl) rfl ?_
  refine Fw.s (Fw.val_assign rfl) rfl ?_
  refine Fw.nil ?_
  refine hK11 _ _ (Fw.FC.sub (f' := [(7, _), (6, _)]) (.cons rfl (.cons rfl .nil)) ?_)
  refine Fw.ret ?_
  refine Fw.X_ret ?_
  refine Fw.ret_ [.tmp 6, .tmp 7] [_, _] Try.results16 (.tmp rfl (.tmp rfl .nil)) ?_
  have hbf : b.f = a.f := by rw [hb_]; exact (Ag.pass_f E a t).1
  have e3 : Ag.recvE N u o = 0 := if_pos hadm
  have e0 : Ag.recv N E u a o t = Ag.took N E b o := by unfold Ag.recv; rw [if_pos hadm, ← hb_]
  have e2 : Ag.recvB N u a o = true := by unfold Ag.recvB; rw [← hbf, hacc, hadm]; rfl
  have e1 : Ag.took N E b o = { b with f := (Or.acc b.f o) } := by unfold Ag.took; rw [if_pos hacc, if_pos h6]
  rw [e0, e1, e2, e3]
  exact ⟨rfl, ⟨A2, c2, HA, HP, hpcb, HF, HG⟩, HC⟩
  rintro h6
  refine Fw.nil ?_
  refine hK9 _ _ ?_
  refine Fw.condF rfl ?_
  refine Fw.skip ?_
  refine hK8 _ _ ?_
  refine Fw.seq fun _ hK12 => ?_
  refine Fw.seq fun _ hK13 => ?_
  refine Fw.region ?_
  refine Fw.s (Fw.val_fieldAddr fl50_2 rfl rfl) rfl ?_
  refine Fw.ld sc3 rfl (Hx.cell 2) rfl ?_
  refine Fw.nil ?_
  refine hK13 _ _ (Fw.FC.sub (f' := [(38, _), (4, _), (0, _)]) (.cons rfl (.cons rfl (.cons rfl .nil))) ?_)
  refine Fw.block ?_
  refine Fw.seq fun _ hK14 => ?_
  refine Fw.region ?_
  refine Fw.s2 (Fw.val_bin rfl rfl Fw.b_eql) rfl ?_ ?_
  rintro k1
  refine Fw.s (Fw.val_assign rfl) rfl ?_
  refine Fw.nil ?_
  refine hK14 _ _ ?_
  refine Fw.condT rfl ?_
  refine Fw.seq fun _ hK16 => ?_
  refine Fw.region ?_
  refine Fw.s (Fw.val_move rfl) rfl ?_
  refine Fw.s (Fw.val_nil rfl) rfl ?_
  refine Fw.s (Fw.val_fieldAddr fl89_3 rfl rfl) rfl ?_
  refine Fw.store sz3 rfl rfl HA rfl rfl rfl ?_
  intro w6 N_ hc
  replace HF := HF.chg hc (by omega)
  replace HP := HP.chg hc (Fw.RdT.ne_ HP HA (by decide))
  replace HG := HG.kp ((Fw.Kp.refl [89] _).one hc HA rfl) rfl rfl rfl rfl
  replace Hx := Hx.chg hc (by omega)
  replace HC := HC.trans hc (fun k hk_ e => by first | exact e | (left; exact e) | (right; exact e) | (exfalso; omega))
  clear hc
  clear HA
  have HA := N_
  clear N_
  replace HA : Blk w6 p 89 #[.pointer (some ⟨pg, 0, none⟩), .pointer (some ⟨pf, 0, none⟩), .int .i64 u, .int .i64 3, .int .i64 (b.v : Int), .int .i64 b.i, .int .i64 (b.d : Int), .slice A2 b.p.length c2, .int .i64 b.z, .int .i64 b.n, .int .i64 b.l.u, .int .i64 b.l.q, .int .i64 b.l.s, .int .i64 b.l.n, .int .i64 b.l.e, .int .i64 b.r] := HA
  refine Fw.nil ?_
  refine hK16 _ _ ?_
  refine Fw.seq fun _ hK17 => ?_
  refine Fw.region ?_
  refine Fw.s (Fw.val_move rfl) rfl ?_
  refine Fw.s (Fw.val_fieldAddr fl50_3 rfl rfl) rfl ?_
  refine Fw.ld sc2 rfl (Hx.cell 3) rfl ?_
  refine Fw.s (Fw.val_nil rfl) rfl ?_
  refine Fw.s (Fw.val_fieldAddr fl89_5 rfl rfl) rfl ?_
  refine Fw.store sz2 rfl rfl HA rfl rfl rfl ?_
  intro w7 N_ hc
  replace HF := HF.chg hc (by omega)
  replace HP := HP.chg hc (Fw.RdT.ne_ HP HA (by decide))
  replace HG := HG.kp ((Fw.Kp.refl [89] _).one hc HA rfl) rfl rfl rfl rfl
  replace Hx := Hx.chg hc (by omega)
  replace HC := HC.trans hc (fun k hk_ e => by first | exact e | (left; exact e) | (right; exact e) | (exfalso; omega))
  clear hc
  clear HA
  have HA := N_
  clear N_
  replace HA : Blk w7 p 89 #[.pointer (some ⟨pg, 0, none⟩), .pointer (some ⟨pf, 0, none⟩), .int .i64 u, .int .i64 3, .int .i64 (b.v : Int), .int .i64 o.i, .int .i64 (b.d : Int), .slice A2 b.p.length c2, .int .i64 b.z, .int .i64 b.n, .int .i64 b.l.u, .int .i64 b.l.q, .int .i64 b.l.s, .int .i64 b.l.n, .int .i64 b.l.e, .int .i64 b.r] := HA
  refine Fw.nil ?_
  refine hK17 _ _ (Fw.FC.sub (f' := [(4, _), (0, _)]) (.cons rfl (.cons rfl .nil)) ?_)
  have hon : 0 ≤ o.n ∧ o.n < N := ⟨by omega, by have := hov.2.2; omega⟩
  refine Fw.region ?_
  refine Fw.s (Fw.val_move rfl) rfl ?_
  refine Fw.s (Fw.val_fieldAddr fl50_4 rfl rfl) rfl ?_
  refine Fw.ld sc3 rfl (Hx.cell 4) rfl ?_
  refine Fw.call cf46 rfl rfl (head2_any _ p pf pg N E u { b with s := 3, i := o.i, f := (Or.acc b.f o) } ⟨A2, c2, HA, HP, hpcb, HF, HG⟩ hgb.net hgb.v o.n (hon)) ?_
  rintro e_ w8 ⟨rfl, H2, hc⟩
  refine ⟨_, rfl, ?_⟩
  replace Hx := Hx.chg hc (by omega)
  replace HC := HC.trans hc (fun k hk_ e => by first | exact e | (left; exact e) | (right; exact e) | (exfalso; omega))
  clear hc
  clear HA HP HF HG
  obtain ⟨b2, hb2_⟩ : ∃ b_, b_ = Ag.head N E { b with s := 3, i := o.i, f := (Or.acc b.f o) } (o.n).toNat := ⟨_, rfl⟩
  rw [← hb2_] at H2
  obtain ⟨A3, c3, HA, HP, hpcb2, HF, HG⟩ := H2
  refine Fw.nil ?_
  refine Fw.X_blockN ?_
  refine hK12 _ _ ?_
  refine Fw.seq fun _ hK18 => ?_
  refine Fw.region ?_
  refine Fw.s (Fw.val_move rfl) rfl ?_
  refine Fw.call cf47 rfl rfl (arrive_any _ p pf pg N E u b2 ⟨A3, c3, HA, HP, hpcb2, HF, HG⟩) ?_
  rintro e_ w9 ⟨rfl, H2, hc⟩
  refine ⟨_, rfl, ?_⟩
  replace Hx := Hx.chg hc (by omega)
  replace HC := HC.trans hc (fun k hk_ e => by first | exact e | (left; exact e) | (right; exact e) | (exfalso; omega))
  clear hc
  clear HA HP HF HG
  refine Fw.nil ?_
  refine hK18 _ _ (Fw.FC.sub (f' := []) .nil ?_)
  refine Fw.seq fun _ hK19 => ?_
  refine Fw.region ?_
  refine Fw.s (Fw.val_assign rfl) rfl ?_
  refine Fw.s (Fw.val_assign rfl) rfl ?_
  refine Fw.nil ?_
  refine hK19 _ _ ?_
  refine Fw.ret ?_
  refine Fw.ret_ [.tmp 6, .tmp 7] [_, _] Try.results16 (.tmp rfl (.tmp rfl .nil)) ?_
  have hbf : b.f = a.f := by rw [hb_]; exact (Ag.pass_f E a t).1
  have e3 : Ag.recvE N u o = 0 := if_pos hadm
  have e0 : Ag.recv N E u a o t = Ag.took N E b o := by unfold Ag.recv; rw [if_pos hadm, ← hb_]
  have e2 : Ag.recvB N u a o = true := by unfold Ag.recvB; rw [← hbf, hacc, hadm]; rfl
  have e1 : Ag.took N E b o = Ag.turn N E { b with f := (Or.acc b.f o) } o := by unfold Ag.took; rw [if_pos hacc, if_neg h6]
  have e4 : Ag.turn N E { b with f := (Or.acc b.f o) } o = Ag.arrive b2 := by rw [hb2_]; exact if_pos k1
  rw [e0, e1, e4, e2, e3]
  exact ⟨rfl, H2, HC⟩
  rintro k1
  refine Fw.s (Fw.val_assign rfl) rfl ?_
  refine Fw.nil ?_
  refine hK14 _ _ ?_
  refine Fw.condF rfl ?_
  refine Fw.seq fun _ hK20 => ?_
  refine Fw.region ?_
  refine Fw.s2 (Fw.val_bin rfl rfl Fw.b_eql) rfl ?_ ?_
  rintro k2
  refine Fw.s (Fw.val_assign rfl) rfl ?_
  refine Fw.nil ?_
  refine hK20 _ _ ?_
  refine Fw.condT rfl ?_
  refine Fw.seq fun _ hK22 => ?_
  refine Fw.region ?_
  refine Fw.s (Fw.val_move rfl) rfl ?_
  refine Fw.s (Fw.val_nil rfl) rfl ?_
  refine Fw.s (Fw.val_fieldAddr fl89_3 rfl rfl) rfl ?_
  refine Fw.store sz3 rfl rfl HA rfl rfl rfl ?_
  intro w10 N_ hc
  replace HF := HF.chg hc (by omega)
  replace HP := HP.chg hc (Fw.RdT.ne_ HP HA (by decide))
  replace HG := HG.kp ((Fw.Kp.refl [89] _).one hc HA rfl) rfl rfl rfl rfl
  replace Hx := Hx.chg hc (by omega)
  replace HC := HC.trans hc (fun k hk_ e => by first | exact e | (left; exact e) | (right; exact e) | (exfalso; omega))
  clear hc
  clear HA
  have HA := N_
  clear N_
  replace HA : Blk w10 p 89 #[.pointer (some ⟨pg, 0, none⟩), .pointer (some ⟨pf, 0, none⟩), .int .i64 u, .int .i64 1, .int .i64 (b.v : Int), .int .i64 b.i, .int .i64 (b.d : Int), .slice A2 b.p.length c2, .int .i64 b.z, .int .i64 b.n, .int .i64 b.l.u, .int .i64 b.l.q, .int .i64 b.l.s, .int .i64 b.l.n, .int .i64 b.l.e, .int .i64 b.r] := HA
  refine Fw.nil ?_
  refine hK22 _ _ (Fw.FC.sub (f' := [(0, _)]) (.cons rfl .nil) ?_)
  refine Fw.seq fun _ hK23 => ?_
  refine Fw.region ?_
  refine Fw.s (Fw.val_move rfl) rfl ?_
  refine Fw.s (Fw.val_nil rfl) rfl ?_
  refine Fw.s (Fw.val_fieldAddr fl89_5 rfl rfl) rfl ?_
  refine Fw.store sz2 rfl rfl HA rfl rfl rfl ?_
  intro w11 N_ hc
  replace HF := HF.chg hc (by omega)
  replace HP := HP.chg hc (Fw.RdT.ne_ HP HA (by decide))
  replace HG := HG.kp ((Fw.Kp.refl [89] _).one hc HA rfl) rfl rfl rfl rfl
  replace Hx := Hx.chg hc (by omega)
  replace HC := HC.trans hc (fun k hk_ e => by first | exact e | (left; exact e) | (right; exact e) | (exfalso; omega))
  clear hc
  clear HA
  have HA := N_
  clear N_
  replace HA : Blk w11 p 89 #[.pointer (some ⟨pg, 0, none⟩), .pointer (some ⟨pf, 0, none⟩), .int .i64 u, .int .i64 1, .int .i64 (b.v : Int), .int .i64 0, .int .i64 (b.d : Int), .slice A2 b.p.length c2, .int .i64 b.z, .int .i64 b.n, .int .i64 b.l.u, .int .i64 b.l.q, .int .i64 b.l.s, .int .i64 b.l.n, .int .i64 b.l.e, .int .i64 b.r] := HA
  refine Fw.nil ?_
  refine hK23 _ _ ?_
  refine Fw.region ?_
  refine Fw.s (Fw.val_move rfl) rfl ?_
  refine Fw.s (Fw.val_move rfl) rfl ?_
  refine Fw.s (Fw.val_nil rfl) rfl ?_
  refine Fw.s (Fw.val_fieldAddr fl89_4 rfl rfl) rfl ?_
  refine Fw.ld sc3 rfl (HA.cell 4) rfl ?_
  refine Fw.call cf46 rfl rfl (head_any _ p pf pg N E u { b with s := 1, i := 0, f := (Or.acc b.f o) } ⟨A2, c2, HA, HP, hpcb, HF, HG⟩ hgb.net hgb.v b.v (hgb.v)) ?_
  rintro e_ w12 ⟨rfl, H2, hc⟩
  refine ⟨_, rfl, ?_⟩
  replace Hx := Hx.chg hc (by omega)
  replace HC := HC.trans hc (fun k hk_ e => by first | exact e | (left; exact e) | (right; exact e) | (exfalso; omega))
  clear hc
  clear HA HP HF HG
  obtain ⟨b2, hb2_⟩ : ∃ b_, b_ = Ag.head N E { b with s := 1, i := 0, f := (Or.acc b.f o) } b.v := ⟨_, rfl⟩
  rw [← hb2_] at H2
  obtain ⟨A3, c3, HA, HP, hpcb2, HF, HG⟩ := H2
  refine Fw.nil ?_
  refine Fw.X_blockN ?_
  refine hK12 _ _ (Fw.FC.sub (f' := [(0, _)]) (.cons rfl .nil) ?_)
  refine Fw.seq fun _ hK24 => ?_
  refine Fw.region ?_
  refine Fw.s (Fw.val_move rfl) rfl ?_
  refine Fw.call cf47 rfl rfl (arrive_any _ p pf pg N E u b2 ⟨A3, c3, HA, HP, hpcb2, HF, HG⟩) ?_
  rintro e_ w13 ⟨rfl, H2, hc⟩
  refine ⟨_, rfl, ?_⟩
  replace Hx := Hx.chg hc (by omega)
  replace HC := HC.trans hc (fun k hk_ e => by first | exact e | (left; exact e) | (right; exact e) | (exfalso; omega))
  clear hc
  clear HA HP HF HG
  refine Fw.nil ?_
  refine hK24 _ _ ?_
  refine Fw.seq fun _ hK25 => ?_
  refine Fw.region ?_
  refine Fw.s (Fw.val_assign rfl) rfl ?_
  refine Fw.s (Fw.val_assign rfl) rfl ?_
  refine Fw.nil ?_
  refine hK25 _ _ ?_
  refine Fw.ret ?_
  refine Fw.ret_ [.tmp 6, .tmp 7] [_, _] Try.results16 (.tmp rfl (.tmp rfl .nil)) ?_
  have hbf : b.f = a.f := by rw [hb_]; exact (Ag.pass_f E a t).1
  have e3 : Ag.recvE N u o = 0 := if_pos hadm
  have e0 : Ag.recv N E u a o t = Ag.took N E b o := by unfold Ag.recv; rw [if_pos hadm, ← hb_]
  have e2 : Ag.recvB N u a o = true := by unfold Ag.recvB; rw [← hbf, hacc, hadm]; rfl
  have e1 : Ag.took N E b o = Ag.turn N E { b with f := (Or.acc b.f o) } o := by unfold Ag.took; rw [if_pos hacc, if_neg h6]
  have e4 : Ag.turn N E { b with f := (Or.acc b.f o) } o = Ag.arrive b2 := by rw [hb2_]; exact (if_neg k1).trans (if_pos k2)
  rw [e0, e1, e4, e2, e3]
  exact ⟨rfl, H2, HC⟩
  rintro k2
  refine Fw.s (Fw.val_assign rfl) rfl ?_
  refine Fw.nil ?_
  refine hK20 _ _ ?_
  refine Fw.condF rfl ?_
  refine Fw.seq fun _ hK26 => ?_
  refine Fw.region ?_
  refine Fw.s (Fw.Val.T (Fw.val_bin rfl rfl Fw.b_eql) (by omega)) rfl ?_
  refine Fw.s (Fw.val_assign rfl) rfl ?_
  refine Fw.nil ?_
  refine hK26 _ _ ?_
  refine Fw.condT rfl ?_
  refine Fw.seq fun _ hK27 => ?_
  refine Fw.region ?_
  refine Fw.s (Fw.val_move rfl) rfl ?_
  refine Fw.s (Fw.val_nil rfl) rfl ?_
  refine Fw.s (Fw.val_fieldAddr fl89_3 rfl rfl) rfl ?_
  refine Fw.store sz3 rfl rfl HA rfl rfl rfl ?_
  intro w14 N_ hc
  replace HF := HF.chg hc (by omega)
  replace HP := HP.chg hc (Fw.RdT.ne_ HP HA (by decide))
  replace HG := HG.kp ((Fw.Kp.refl [89] _).one hc HA rfl) rfl rfl rfl rfl
  replace Hx := Hx.chg hc (by omega)
  replace HC := HC.trans hc (fun k hk_ e => by first | exact e | (left; exact e) | (right; exact e) | (exfalso; omega))
  clear hc
  clear HA
  have HA := N_
  clear N_
  replace HA : Blk w14 p 89 #[.pointer (some ⟨pg, 0, none⟩), .pointer (some ⟨pf, 0, none⟩), .int .i64 u, .int .i64 1, .int .i64 (b.v : Int), .int .i64 b.i, .int .i64 (b.d : Int), .slice A2 b.p.length c2, .int .i64 b.z, .int .i64 b.n, .int .i64 b.l.u, .int .i64 b.l.q, .int .i64 b.l.s, .int .i64 b.l.n, .int .i64 b.l.e, .int .i64 b.r] := HA
  refine Fw.nil ?_
  refine hK27 _ _ (Fw.FC.sub (f' := [(4, _), (0, _)]) (.cons rfl (.cons rfl .nil)) ?_)
  refine Fw.seq fun _ hK28 => ?_
  refine Fw.region ?_
  refine Fw.s (Fw.val_move rfl) rfl ?_
  refine Fw.s (Fw.val_nil rfl) rfl ?_
  refine Fw.s (Fw.val_fieldAddr fl89_5 rfl rfl) rfl ?_
  refine Fw.store sz2 rfl rfl HA rfl rfl rfl ?_
  intro w15 N_ hc
  replace HF := HF.chg hc (by omega)
  replace HP := HP.chg hc (Fw.RdT.ne_ HP HA (by decide))
  replace HG := HG.kp ((Fw.Kp.refl [89] _).one hc HA rfl) rfl rfl rfl rfl
  replace Hx := Hx.chg hc (by omega)
  replace HC := HC.trans hc (fun k hk_ e => by first | exact e | (left; exact e) | (right; exact e) | (exfalso; omega))
  clear hc
  clear HA
  have HA := N_
  clear N_
  replace HA : Blk w15 p 89 #[.pointer (some ⟨pg, 0, none⟩), .pointer (some ⟨pf, 0, none⟩), .int .i64 u, .int .i64 1, .int .i64 (b.v : Int), .int .i64 0, .int .i64 (b.d : Int), .slice A2 b.p.length c2, .int .i64 b.z, .int .i64 b.n, .int .i64 b.l.u, .int .i64 b.l.q, .int .i64 b.l.s, .int .i64 b.l.n, .int .i64 b.l.e, .int .i64 b.r] := HA
  refine Fw.nil ?_
  refine hK28 _ _ ?_
  have hon : 0 ≤ o.n ∧ o.n < N := ⟨by omega, by have := hov.2.2; omega⟩
  refine Fw.region ?_
  refine Fw.s (Fw.val_move rfl) rfl ?_
  refine Fw.s (Fw.val_fieldAddr fl50_4 rfl rfl) rfl ?_
  refine Fw.ld sc3 rfl (Hx.cell 4) rfl ?_
  refine Fw.call cf46 rfl rfl (head2_any _ p pf pg N E u { b with s := 1, i := 0, f := (Or.acc b.f o) } ⟨A2, c2, HA, HP, hpcb, HF, HG⟩ hgb.net hgb.v o.n (hon)) ?_
  rintro e_ w16 ⟨rfl, H2, hc⟩
  refine ⟨_, rfl, ?_⟩
  replace Hx := Hx.chg hc (by omega)
  replace HC := HC.trans hc (fun k hk_ e => by first | exact e | (left; exact e) | (right; exact e) | (exfalso; omega))
  clear hc
  clear HA HP HF HG
  obtain ⟨b2, hb2_⟩ : ∃ b_, b_ = Ag.head N E { b with s := 1, i := 0, f := (Or.acc b.f o) } (o.n).toNat := ⟨_, rfl⟩
  rw [← hb2_] at H2
  obtain ⟨A3, c3, HA, HP, hpcb2, HF, HG⟩ := H2
  refine Fw.nil ?_
  refine Fw.X_blockN ?_
  refine hK12 _ _ (Fw.FC.sub (f' := [(0, _)]) (.cons rfl .nil) ?_)
  refine Fw.seq fun _ hK29 => ?_
  refine Fw.region ?_
  refine Fw.s (Fw.val_move rfl) rfl ?_
  refine Fw.call cf47 rfl rfl (arrive_any _ p pf pg N E u b2 ⟨A3, c3, HA, HP, hpcb2, HF, HG⟩) ?_
  rintro e_ w17 ⟨rfl, H2, hc⟩
  refine ⟨_, rfl, ?_⟩
  replace Hx := Hx.chg hc (by omega)
  replace HC := HC.trans hc (fun k hk_ e => by first | exact e | (left; exact e) | (right; exact e) | (exfalso; omega))
  clear hc
  clear HA HP HF HG
  refine Fw.nil ?_
  refine hK29 _ _ ?_
  refine Fw.seq fun _ hK30 => ?_
  refine Fw.region ?_
  refine Fw.s (Fw.val_assign rfl) rfl ?_
  refine Fw.s (Fw.val_assign rfl) rfl ?_
  refine Fw.nil ?_
  refine hK30 _ _ ?_
  refine Fw.ret ?_
  refine Fw.ret_ [.tmp 6, .tmp 7] [_, _] Try.results16 (.tmp rfl (.tmp rfl .nil)) ?_
  have hbf : b.f = a.f := by rw [hb_]; exact (Ag.pass_f E a t).1
  have e3 : Ag.recvE N u o = 0 := if_pos hadm
  have e0 : Ag.recv N E u a o t = Ag.took N E b o := by unfold Ag.recv; rw [if_pos hadm, ← hb_]
  have e2 : Ag.recvB N u a o = true := by unfold Ag.recvB; rw [← hbf, hacc, hadm]; rfl
  have e1 : Ag.took N E b o = Ag.turn N E { b with f := (Or.acc b.f o) } o := by unfold Ag.took; rw [if_pos hacc, if_neg h6]
  have e4 : Ag.turn N E { b with f := (Or.acc b.f o) } o = Ag.arrive b2 := by rw [hb2_]; exact (if_neg k1).trans ((if_neg k2).trans (if_pos (by omega)))
  rw [e0, e1, e4, e2, e3]
  exact ⟨rfl, H2, HC⟩
  rintro hacc
  refine Fw.s (Fw.val_not rfl) rfl ?_
  refine Fw.s (Fw.val_move rfl) rfl ?_
  refine Fw.gF (d := 28) rfl rfl rfl rfl ?_
  refine Fw.gF (d := 28) rfl rfl rfl rfl ?_
  refine Fw.s (Fw.val_pickT rfl rfl) rfl ?_
  refine Fw.nil ?_
  refine hK7 _ _ (Fw.FC.sub (f' := [(31, _), (4, _), (0, _)]) (.cons rfl (.cons rfl (.cons rfl .nil))) ?_)
  refine Fw.condT rfl ?_
  refine Fw.seq fun _ hK31 => ?_
  refine Fw.region ?_
  refine Fw.s (Fw.val_assign rfl) rfl ?_
  refine Fw.s (Fw.val_assign rfl) rfl ?_
  refine Fw.nil ?_
  refine hK31 _ _ ?_
  refine Fw.ret ?_
  refine Fw.X_ret ?_
  refine Fw.ret_ [.tmp 6, .tmp 7] [_, _] Try.results16 (.tmp rfl (.tmp rfl .nil)) ?_
  have hbf : b.f = a.f := by rw [hb_]; exact (Ag.pass_f E a t).1
  have e3 : Ag.recvE N u o = 0 := if_pos hadm
  have e0 : Ag.recv N E u a o t = Ag.took N E b o := by unfold Ag.recv; rw [if_pos hadm, ← hb_]
  have e1 : Ag.took N E b o = { b with f := (Or.acc b.f o) } := by unfold Ag.took; rw [if_neg (by rw [hacc]; decide), Ag.acc_no (by rw [hacc]; decide)]
  have e2 : Ag.recvB N u a o = false := by unfold Ag.recvB; rw [← hbf, hacc, Bool.and_false]
  rw [e0, e1, e2, e3]
  exact ⟨rfl, ⟨A2, c2, HA, HP, hpcb, HF, HG⟩, HC⟩
  rintro hadm
  refine Fw.s (Fw.val_not rfl) rfl ?_
  refine Fw.nil ?_
  refine hK3 _ _ (Fw.FC.sub (f' := [(13, _), (4, _), (0, _), (2, _)]) (.cons rfl (.cons rfl (.cons rfl (.cons rfl .nil)))) ?_)
  refine Fw.condT rfl ?_
  refine Fw.seq fun _ hK32 => ?_
  refine Fw.region ?_
  refine Fw.s (Fw.val_assign rfl) rfl ?_
  refine Fw.s (Fw.val_assign rfl) rfl ?_
  refine Fw.nil ?_
  refine hK32 _ _ ?_
  refine Fw.ret ?_
  refine Fw.X_ret ?_
  refine Fw.ret_ [.tmp 6, .tmp 7] [_, _] Try.results16 (.tmp rfl (.tmp rfl .nil)) ?_
  have e1 : Ag.recv N E u a o t = a := if_neg (by rw [hadm]; decide)
  have e2 : Ag.recvB N u a o = false := by unfold Ag.recvB; rw [hadm]; rfl
  have e3 : Ag.recvE N u o = 1 := if_neg (by rw [hadm]; decide)
  rw [e1, e2, e3]
  exact ⟨rfl, ⟨A, c, HA, HP, hpc, HF, HG⟩, HC⟩

set_option maxRecDepth 100000 in
set_option maxHeartbeats 4000000 in
theorem report_any (w : World) (p pf pg N : Nat) (E : List Rg.Ed) (u : Int) (a : Ag) (h : AgAt w p pf pg N E u a) (hg : Ag.Good N E u a) (t g : Int) : Calls Try.prog 17 #[.pointer (some ⟨p, 0, none⟩), .int .i64 t, .int .i64 g] w fun e_ w' => e_ = .returned (.tuple #[.agg #[.int .i64 (Ag.reportS E u a t g).u, .int .i64 (Ag.reportS E u a t g).q, .int .i64 (Ag.reportS E u a t g).s, .int .i64 (Ag.reportS E u a t g).n, .int .i64 (Ag.reportS E u a t g).e], .bool (Ag.reportB E a t g)]) ∧ AgAt w' p pf pg N E u (Ag.report E u a t g) ∧ Chg (· = p) w w' := by
  obtain ⟨A, c, HA, HP, hpc, HF, HG⟩ := h
  have hpl := HA.lt
  have hfl := Blk.lt HF
  have n_pf : p ≠ pf := Blk.ne_ HA HF (by decide)
  refine Fw.calls Try.func17 rfl Try.ntmps17 rfl ?_
  have HC := Chg.refl (· = p) w
  refine Fw.seq fun _ hK1 => ?_
  refine Fw.region ?_
  refine Fw.alloc ze60 rfl ?_
  intro w1 gx egx Hx hb
  have n_p_gx : p < gx := by have := HA.lt; omega
  have n_pf_gx : pf < gx := by have := HF.lt; omega
  have lgx : w.heap.size ≤ gx := by have := HC.size; omega
  replace HA := HA.low hb
  replace HF := HF.low hb
  replace HP := HP.low hb
  replace HG := HG.low hb
  replace HC := HC.trans (Chg.of_below hb (· = p)) (fun _ _ h => h)
  clear hb
  clear egx
  refine Fw.s (Fw.val_assign rfl) rfl ?_
  refine Fw.nil ?_
  refine hK1 _ _ ?_
  refine Fw.seq fun _ hK2 => ?_
  refine Fw.region ?_
  refine Fw.s (Fw.val_move rfl) rfl ?_
  refine Fw.s (Fw.val_move rfl) rfl ?_
  refine Fw.call cf31 rfl rfl (pass_any _ p pf pg N E u a ⟨A, c, HA, HP, hpc, HF, HG⟩ hg t) ?_
  rintro e_ w2 ⟨rfl, H2, hc⟩
  refine ⟨_, rfl, ?_⟩
  replace Hx := Hx.chg hc (by omega)
  replace HC := HC.trans hc (fun k hk_ e => by first | exact e | (left; exact e) | (right; exact e) | (exfalso; omega))
  clear hc
  clear HA HP HF HG
  obtain ⟨b, hb_⟩ : ∃ b_, b_ = Ag.pass E a t := ⟨_, rfl⟩
  rw [← hb_] at H2
  obtain ⟨A2, c2, HA, HP, hpcb, HF, HG⟩ := H2
  have hgb : Ag.Good N E u b := by rw [hb_]; exact hg.pass t
  refine Fw.nil ?_
  refine hK2 _ _ ?_
  refine Fw.seq fun _ hK3 => ?_
  refine Fw.region ?_
  refine Fw.s (Fw.val_move rfl) rfl ?_
  refine Fw.call cf48 rfl rfl (agEpoch_any _ p pf pg N E u b ⟨A2, c2, HA, HP, hpcb, HF, HG⟩) ?_
  rintro e_ w3 ⟨rfl, hb⟩
  refine ⟨_, rfl, ?_⟩
  replace HA := HA.low hb
  replace HF := HF.low hb
  replace HP := HP.low hb
  replace HG := HG.low hb
  replace Hx := Hx.low hb
  replace HC := HC.trans (Chg.of_below hb (· = p)) (fun _ _ h => h)
  clear hb
  refine Fw.s (Fw.val_assign rfl) rfl ?_
  refine Fw.nil ?_
  refine hK3 _ _ (Fw.FC.sub (f' := [(8, _), (6, _), (0, _), (2, _)]) (.cons rfl (.cons rfl (.cons rfl (.cons rfl .nil)))) ?_)
  refine Fw.seq_cutE (α := Bool) (fun x_ => match x_ with | ch => [(0, .pointer (some ⟨p, 0, none⟩)), (2, .int .i64 g), (6, .pointer (some ⟨gx, 0, none⟩)), (8, .int .i64 (Ag.epoch b)), (9, .bool ch)]) (fun x_ W_ => match x_ with | ch => Blk W_ p 89 #[.pointer (some ⟨pg, 0, none⟩), .pointer (some ⟨pf, 0, none⟩), .int .i64 u, .int .i64 b.s, .int .i64 (b.v : Int), .int .i64 b.i, .int .i64 (b.d : Int), .slice A2 b.p.length c2, .int .i64 b.z, .int .i64 b.n, .int .i64 b.l.u, .int .i64 b.l.q, .int .i64 b.l.s, .int .i64 b.l.n, .int .i64 b.l.e, .int .i64 b.r] ∧ Fw.RdT W_ 3 A2 (Rg.ints b.p) ∧ FenceAt W_ pf b.f ∧ Rg.GT W_ pg N E ∧ Blk W_ gx 60 #[.int .i64 0, .int .i64 0, .int .i64 0, .int .i64 0, .int .i64 0] ∧ (ch = decide (Ag.changed b)) ∧ Chg (· = p) w W_) ?_ (fun _ hK4 => ?_)
  rintro ch w4 ⟨HA, HP, HF, HG, Hx, hch, HC⟩
  show Fw.FC _ _ _ _ _ [(0, .pointer (some ⟨p, 0, none⟩)), (2, .int .i64 g), (6, .pointer (some ⟨gx, 0, none⟩)), (8, .int .i64 (Ag.epoch b)), (9, .bool ch)] _
  refine Fw.seq_cutE (α := Bool) (fun x_ => match x_ with | du => [(0, .pointer (some ⟨p, 0, none⟩)), (2, .int .i64 g), (6, .pointer (some ⟨gx, 0, none⟩)), (8, .int .i64 (Ag.epoch b)), (9, .bool ch), (10, .bool du)]) (fun x_ W_ => match x_ with | du => Blk W_ p 89 #[.pointer (some ⟨pg, 0, none⟩), .pointer (some ⟨pf, 0, none⟩), .int .i64 u, .int .i64 b.s, .int .i64 (b.v : Int), .int .i64 b.i, .int .i64 (b.d : Int), .slice A2 b.p.length c2, .int .i64 b.z, .int .i64 b.n, .int .i64 b.l.u, .int .i64 b.l.q, .int .i64 b.l.s, .int .i64 b.l.n, .int .i64 b.l.e, .int .i64 b.r] ∧ Fw.RdT W_ 3 A2 (Rg.ints b.p) ∧ FenceAt W_ pf b.f ∧ Rg.GT W_ pg N E ∧ Blk W_ gx 60 #[.int .i64 0, .int .i64 0, .int .i64 0, .int .i64 0, .int .i64 0] ∧ (du = decide (Ag.due b g)) ∧ Chg (· = p) w W_) ?_ (fun _ hK5 => ?_)
  rintro du w5 ⟨HA, HP, HF, HG, Hx, hdu, HC⟩
  show Fw.FC _ _ _ _ _ [(0, .pointer (some ⟨p, 0, none⟩)), (2, .int .i64 g), (6, .pointer (some ⟨gx, 0, none⟩)), (8, .int .i64 (Ag.epoch b)), (9, .bool ch), (10, .bool du)] _
  refine Fw.seq fun _ hK6 => ?_
  refine Fw.seq fun _ hK7 => ?_
  refine Fw.region ?_
  refine Fw.s (Fw.val_move rfl) rfl ?_
  refine Fw.b2 ?_ ?_
  rintro b1
  refine Fw.s (Fw.val_not rfl) rfl ?_
  refine Fw.s (Fw.val_move rfl) rfl ?_
  refine Fw.gF (d := 72) rfl rfl rfl rfl ?_
  refine Fw.gF (d := 72) rfl rfl rfl rfl ?_
  refine Fw.s (Fw.val_pickF rfl rfl) rfl ?_
  refine Fw.nil ?_
  refine hK7 _ _ (Fw.FC.sub (f' := [(75, _), (0, _), (6, _), (8, _)]) (.cons rfl (.cons rfl (.cons rfl (.cons rfl .nil)))) ?_)
  refine Fw.condF rfl ?_
  refine Fw.skip ?_
  refine hK6 _ _ ?_
  refine Fw.seq fun _ hK8 => ?_
  refine Fw.regionL 23 (by kernel_rfl) ?_
  have R_HA := HA
  have R_HF := HF
  have R_HG := HG
  have R_Hx := Hx
  intro w6 hb
  have HS := hb
  replace HA := HA.low hb
  replace HP := HP.low hb
  replace HF := HF.low hb
  replace HG := HG.low hb
  replace Hx := Hx.low hb
  replace HC := HC.trans (Chg.of_below hb (· = p)) (fun _ _ h => h)
  clear hb
  refine Fw.lTk 0 rfl rfl (Fw.yV (Fw.val_move rfl)) rfl ?_
  refine Fw.lTk 1 rfl rfl (Fw.yV (Fw.val_move rfl)) rfl ?_
  refine Fw.lTk 2 rfl rfl (Fw.yV (Fw.val_nil rfl)) rfl ?_
  refine Fw.lTk 3 rfl rfl (Fw.yV (Fw.val_fieldAddr fl89_2 rfl rfl)) rfl ?_
  refine Fw.lTk 4 rfl rfl (Fw.yV (Fw.hLd sc3 rfl (R_HA.cell 2))) rfl ?_
  refine Fw.lTk 5 rfl rfl (Fw.yV (Fw.val_move rfl)) rfl ?_
  refine Fw.lTk 6 rfl rfl (Fw.yV (Fw.val_nil rfl)) rfl ?_
  refine Fw.lTk 7 rfl rfl (Fw.yV (Fw.val_fieldAddr fl89_10 rfl rfl)) rfl ?_
  refine Fw.lTk 8 rfl rfl (Fw.yV (Fw.val_fieldAddr fl60_1 rfl rfl)) rfl ?_
  refine Fw.lTk 9 rfl rfl (Fw.yV (Fw.hLd sc2 rfl (R_HA.cell 11))) rfl ?_
  refine Fw.lTk 10 rfl rfl (Fw.yV (Fw.val_bin rfl rfl (Fw.b_add rfl))) rfl ?_
  refine Fw.lTk 11 rfl rfl (Fw.yV (Fw.val_move rfl)) rfl ?_
  refine Fw.lTk 12 rfl rfl (Fw.yV (Fw.val_nil rfl)) rfl ?_
  refine Fw.lTk 13 rfl rfl (Fw.yV (Fw.val_fieldAddr fl89_3 rfl rfl)) rfl ?_
  refine Fw.lTk 14 rfl rfl (Fw.yV (Fw.hLd sc3 rfl (R_HA.cell 3))) rfl ?_
  refine Fw.lTk 15 rfl rfl (Fw.yV (Fw.val_move rfl)) rfl ?_
  refine Fw.lTk 16 rfl rfl (Fw.yV (Fw.val_nil rfl)) rfl ?_
  refine Fw.lTk 17 rfl rfl (Fw.yV (Fw.val_fieldAddr fl89_4 rfl rfl)) rfl ?_
  refine Fw.lTk 18 rfl rfl (Fw.yV (Fw.hLd sc3 rfl (R_HA.cell 4))) rfl ?_
  refine Fw.lTk 19 rfl rfl (Fw.yV (Fw.val_move rfl)) rfl ?_
  refine Fw.lTk 20 rfl rfl (Fw.yV (Fw.val_build (ps := [(0, _), (1, _), (2, _), (3, _), (4, _)]) rfl (bu60_0_1_2_3_4 _ _ _ _ _))) rfl ?_
  refine Fw.lTk 21 rfl rfl (Fw.yV (Fw.val_nil rfl)) rfl ?_
  refine Fw.lTk 22 rfl rfl (Fw.yV (Fw.val_fieldAddr fl89_10 rfl rfl)) rfl ?_
  refine Fw.lLast rfl (by kernel_rfl) (by kernel_rfl) ?_
  refine Fw.storeP sz60 rfl rfl HA rfl rfl (by exact Fw.oneCells rfl) ?_
  intro w7 N_ hc
  replace HP := HP.chg hc (Fw.RdT.ne_ HP HA (by decide))
  replace HF := HF.chg hc (by omega)
  replace HG := HG.kp ((Fw.Kp.refl [89] _).one hc HA rfl) rfl rfl rfl rfl
  replace Hx := Hx.chg hc (by omega)
  replace HC := HC.trans hc (fun k hk_ e => by first | exact e | (left; exact e) | (right; exact e) | (exfalso; omega))
  clear hc
  clear HA
  have HA := N_
  clear N_
  replace HA : Blk w7 p 89 #[.pointer (some ⟨pg, 0, none⟩), .pointer (some ⟨pf, 0, none⟩), .int .i64 u, .int .i64 b.s, .int .i64 (b.v : Int), .int .i64 b.i, .int .i64 (b.d : Int), .slice A2 b.p.length c2, .int .i64 b.z, .int .i64 b.n, .int .i64 u, .int .i64 (IntKind.i64.wrap (b.l.q + 1)), .int .i64 b.s, .int .i64 (b.v : Int), .int .i64 (Ag.epoch b), .int .i64 b.r] := HA
  refine Fw.nil ?_
  refine hK8 _ _ (Fw.FC.sub (f' := [(0, _), (6, _)]) (.cons rfl (.cons rfl .nil)) ?_)
  refine Fw.seq fun _ hK9 => ?_
  refine Fw.region ?_
  refine Fw.s (Fw.val_move rfl) rfl ?_
  refine Fw.s (Fw.val_move rfl) rfl ?_
  refine Fw.s (Fw.val_nil rfl) rfl ?_
  refine Fw.s (Fw.val_fieldAddr fl89_9 rfl rfl) rfl ?_
  refine Fw.ld sc2 rfl (HA.cell 9) rfl ?_
  refine Fw.s (Fw.val_nil rfl) rfl ?_
  refine Fw.s (Fw.val_fieldAddr fl89_11 rfl rfl) rfl ?_
  refine Fw.store sz2 rfl rfl HA rfl rfl rfl ?_
  intro w8 N_ hc
  replace HP := HP.chg hc (Fw.RdT.ne_ HP HA (by decide))
  replace HF := HF.chg hc (by omega)
  replace HG := HG.kp ((Fw.Kp.refl [89] _).one hc HA rfl) rfl rfl rfl rfl
  replace Hx := Hx.chg hc (by omega)
  replace HC := HC.trans hc (fun k hk_ e => by first | exact e | (left; exact e) | (right; exact e) | (exfalso; omega))
  clear hc
  clear HA
  have HA := N_
  clear N_
  replace HA : Blk w8 p 89 #[.pointer (some ⟨pg, 0, none⟩), .pointer (some ⟨pf, 0, none⟩), .int .i64 u, .int .i64 b.s, .int .i64 (b.v : Int), .int .i64 b.i, .int .i64 (b.d : Int), .slice A2 b.p.length c2, .int .i64 b.z, .int .i64 b.n, .int .i64 u, .int .i64 (IntKind.i64.wrap (b.l.q + 1)), .int .i64 b.s, .int .i64 (b.v : Int), .int .i64 (Ag.epoch b), .int .i64 b.n] := HA
  refine Fw.nil ?_
  refine hK9 _ _ (Fw.FC.sub (f' := [(0, _), (6, _)]) (.cons rfl (.cons rfl .nil)) ?_)
  refine Fw.seq fun _ hK10 => ?_
  refine Fw.region ?_
  refine Fw.s (Fw.val_move rfl) rfl ?_
  refine Fw.s (Fw.val_nil rfl) rfl ?_
  refine Fw.s (Fw.val_fieldAddr fl89_10 rfl rfl) rfl ?_
  refine Fw.ldA ag60 rfl (Fw.rdPart (Fw.rdBlk HA) 10 5) rfl rfl ?_
  refine Fw.storeW sz60 rfl rfl Hx rfl rfl (by exact Fw.oneCells rfl) ?_
  intro w9 N_ hc
  replace HA := HA.chg hc (by omega)
  replace HP := HP.chg hc (Fw.RdT.ne_ HP Hx (by decide))
  replace HF := HF.chg hc (by omega)
  replace HG := HG.kp ((Fw.Kp.refl [60] _).one hc Hx rfl) rfl rfl rfl rfl
  replace HC := HC.trans hc (fun k hk_ e => by first | exact e | (left; exact e) | (right; exact e) | (exfalso; omega))
  clear hc
  clear Hx
  have Hx := N_
  clear N_
  replace Hx : Blk w9 gx 60 #[.int .i64 u, .int .i64 (IntKind.i64.wrap (b.l.q + 1)), .int .i64 b.s, .int .i64 (b.v : Int), .int .i64 (Ag.epoch b)] := Hx
  refine Fw.s (Fw.val_assign rfl) rfl ?_
  refine Fw.nil ?_
  refine hK10 _ _ ?_
  refine Fw.ret ?_
  refine Fw.ret_ [.cell 6 60, .tmp 7] [_, _] Try.results17 (Fw.ResL.cellM rfl ag60 (Fw.rdBlk Hx) rfl (.tmp rfl .nil)) ?_
  have e0 : Ag.reportB E a t g = true := by unfold Ag.reportB; rw [← hb_]; exact decide_eq_true (.inl (of_decide_eq_true (hch.symm.trans b1)))
  have e1 : Ag.report E u a t g = { b with l := Ag.says u b, r := b.n } := by unfold Ag.report; rw [if_pos e0, ← hb_]
  have e2 : Ag.reportS E u a t g = Ag.says u b := by unfold Ag.reportS; rw [if_pos e0, ← hb_]
  rw [e0, e1, e2]
  exact ⟨rfl, ⟨A2, c2, HA, HP, hpcb, HF, HG⟩, HC⟩
  rintro b1
  refine Fw.s (Fw.val_not rfl) rfl ?_
  refine Fw.s (Fw.val_move rfl) rfl ?_
  refine Fw.gT (d := 72) rfl rfl ?_
  refine Fw.s (Fw.val_move rfl) rfl ?_
  refine Fw.b2 ?_ ?_
  rintro b2
  refine Fw.gT (d := 72) rfl rfl ?_
  refine Fw.s (Fw.val_not rfl) rfl ?_
  refine Fw.s (Fw.val_pickT rfl rfl) rfl ?_
  refine Fw.nil ?_
  refine hK7 _ _ (Fw.FC.sub (f' := [(75, _), (0, _), (6, _), (8, _)]) (.cons rfl (.cons rfl (.cons rfl (.cons rfl .nil)))) ?_)
  refine Fw.condF rfl ?_
  refine Fw.skip ?_
  refine hK6 _ _ ?_
  refine Fw.seq fun _ hK11 => ?_
  refine Fw.regionL 23 (by kernel_rfl) ?_
  have R_HA := HA
  have R_HF := HF
  have R_HG := HG
  have R_Hx := Hx
  intro w10 hb
  have HS := hb
  replace HA := HA.low hb
  replace HP := HP.low hb
  replace HF := HF.low hb
  replace HG := HG.low hb
  replace Hx := Hx.low hb
  replace HC := HC.trans (Chg.of_below hb (· = p)) (fun _ _ h => h)
  clear hb
  refine Fw.lTk 0 rfl rfl (Fw.yV (Fw.val_move rfl)) rfl ?_
  refine Fw.lTk 1 rfl rfl (Fw.yV (Fw.val_move rfl)) rfl ?_
  refine Fw.lTk 2 rfl rfl (Fw.yV (Fw.val_nil rfl)) rfl ?_
  refine Fw.lTk 3 rfl rfl (Fw.yV (Fw.val_fieldAddr fl89_2 rfl rfl)) rfl ?_
  refine Fw.lTk 4 rfl rfl (Fw.yV (Fw.hLd sc3 rfl (R_HA.cell 2))) rfl ?_
  refine Fw.lTk 5 rfl rfl (Fw.yV (Fw.val_move rfl)) rfl ?_
  refine Fw.lTk 6 rfl rfl (Fw.yV (Fw.val_nil rfl)) rfl ?_
  refine Fw.lTk 7 rfl rfl (Fw.yV (Fw.val_fieldAddr fl89_10 rfl rfl)) rfl ?_
  refine Fw.lTk 8 rfl rfl (Fw.yV (Fw.val_fieldAddr fl60_1 rfl rfl)) rfl ?_
  refine Fw.lTk 9 rfl rfl (Fw.yV (Fw.hLd sc2 rfl (R_HA.cell 11))) rfl ?_
  refine Fw.lTk 10 rfl rfl (Fw.yV (Fw.val_bin rfl rfl (Fw.b_add rfl))) rfl ?_
  refine Fw.lTk 11 rfl rfl (Fw.yV (Fw.val_move rfl)) rfl ?_
  refine Fw.lTk 12 rfl rfl (Fw.yV (Fw.val_nil rfl)) rfl ?_
  refine Fw.lTk 13 rfl rfl (Fw.yV (Fw.val_fieldAddr fl89_3 rfl rfl)) rfl ?_
  refine Fw.lTk 14 rfl rfl (Fw.yV (Fw.hLd sc3 rfl (R_HA.cell 3))) rfl ?_
  refine Fw.lTk 15 rfl rfl (Fw.yV (Fw.val_move rfl)) rfl ?_
  refine Fw.lTk 16 rfl rfl (Fw.yV (Fw.val_nil rfl)) rfl ?_
  refine Fw.lTk 17 rfl rfl (Fw.yV (Fw.val_fieldAddr fl89_4 rfl rfl)) rfl ?_
  refine Fw.lTk 18 rfl rfl (Fw.yV (Fw.hLd sc3 rfl (R_HA.cell 4))) rfl ?_
  refine Fw.lTk 19 rfl rfl (Fw.yV (Fw.val_move rfl)) rfl ?_
  refine Fw.lTk 20 rfl rfl (Fw.yV (Fw.val_build (ps := [(0, _), (1, _), (2, _), (3, _), (4, _)]) rfl (bu60_0_1_2_3_4 _ _ _ _ _))) rfl ?_
  refine Fw.lTk 21 rfl rfl (Fw.yV (Fw.val_nil rfl)) rfl ?_
  refine Fw.lTk 22 rfl rfl (Fw.yV (Fw.val_fieldAddr fl89_10 rfl rfl)) rfl ?_
  refine Fw.lLast rfl (by kernel_rfl) (by kernel_rfl) ?_
  refine Fw.storeP sz60 rfl rfl HA rfl rfl (by exact Fw.oneCells rfl) ?_
  intro w11 N_ hc
  replace HP := HP.chg hc (Fw.RdT.ne_ HP HA (by decide))
  replace HF := HF.chg hc (by omega)
  replace HG := HG.kp ((Fw.Kp.refl [89] _).one hc HA rfl) rfl rfl rfl rfl
  replace Hx := Hx.chg hc (by omega)
  replace HC := HC.trans hc (fun k hk_ e => by first | exact e | (left; exact e) | (right; exact e) | (exfalso; omega))
  clear hc
  clear HA
  have HA := N_
  clear N_
  replace HA : Blk w11 p 89 #[.pointer (some ⟨pg, 0, none⟩), .pointer (some ⟨pf, 0, none⟩), .int .i64 u, .int .i64 b.s, .int .i64 (b.v : Int), .int .i64 b.i, .int .i64 (b.d : Int), .slice A2 b.p.length c2, .int .i64 b.z, .int .i64 b.n, .int .i64 u, .int .i64 (IntKind.i64.wrap (b.l.q + 1)), .int .i64 b.s, .int .i64 (b.v : Int), .int .i64 (Ag.epoch b), .int .i64 b.r] := HA
  refine Fw.nil ?_
  refine hK11 _ _ (Fw.FC.sub (f' := [(0, _), (6, _)]) (.cons rfl (.cons rfl .nil)) ?_)
  refine Fw.seq fun _ hK12 => ?_
  refine Fw.region ?_
  refine Fw.s (Fw.val_move rfl) rfl ?_
  refine Fw.s (Fw.val_move rfl) rfl ?_
  refine Fw.s (Fw.val_nil rfl) rfl ?_
  refine Fw.s (Fw.val_fieldAddr fl89_9 rfl rfl) rfl ?_
  refine Fw.ld sc2 rfl (HA.cell 9) rfl ?_
  refine Fw.s (Fw.val_nil rfl) rfl ?_
  refine Fw.s (Fw.val_fieldAddr fl89_11 rfl rfl) rfl ?_
  refine Fw.store sz2 rfl rfl HA rfl rfl rfl ?_
  intro w12 N_ hc
  replace HP := HP.chg hc (Fw.RdT.ne_ HP HA (by decide))
  replace HF := HF.chg hc (by omega)
  replace HG := HG.kp ((Fw.Kp.refl [89] _).one hc HA rfl) rfl rfl rfl rfl
  replace Hx := Hx.chg hc (by omega)
  replace HC := HC.trans hc (fun k hk_ e => by first | exact e | (left; exact e) | (right; exact e) | (exfalso; omega))
  clear hc
  clear HA
  have HA := N_
  clear N_
  replace HA : Blk w12 p 89 #[.pointer (some ⟨pg, 0, none⟩), .pointer (some ⟨pf, 0, none⟩), .int .i64 u, .int .i64 b.s, .int .i64 (b.v : Int), .int .i64 b.i, .int .i64 (b.d : Int), .slice A2 b.p.length c2, .int .i64 b.z, .int .i64 b.n, .int .i64 u, .int .i64 (IntKind.i64.wrap (b.l.q + 1)), .int .i64 b.s, .int .i64 (b.v : Int), .int .i64 (Ag.epoch b), .int .i64 b.n] := HA
  refine Fw.nil ?_
  refine hK12 _ _ (Fw.FC.sub (f' := [(0, _), (6, _)]) (.cons rfl (.cons rfl .nil)) ?_)
  refine Fw.seq fun _ hK13 => ?_
  refine Fw.region ?_
  refine Fw.s (Fw.val_move rfl) rfl ?_
  refine Fw.s (Fw.val_nil rfl) rfl ?_
  refine Fw.s (Fw.val_fieldAddr fl89_10 rfl rfl) rfl ?_
  refine Fw.ldA ag60 rfl (Fw.rdPart (Fw.rdBlk HA) 10 5) rfl rfl ?_
  refine Fw.storeW sz60 rfl rfl Hx rfl rfl (by exact Fw.oneCells rfl) ?_
  intro w13 N_ hc
  replace HA := HA.chg hc (by omega)
  replace HP := HP.chg hc (Fw.RdT.ne_ HP Hx (by decide))
  replace HF := HF.chg hc (by omega)
  replace HG := HG.kp ((Fw.Kp.refl [60] _).one hc Hx rfl) rfl rfl rfl rfl
  replace HC := HC.trans hc (fun k hk_ e => by first | exact e | (left; exact e) | (right; exact e) | (exfalso; omega))
  clear hc
  clear Hx
  have Hx := N_
  clear N_
  replace Hx : Blk w13 gx 60 #[.int .i64 u, .int .i64 (IntKind.i64.wrap (b.l.q + 1)), .int .i64 b.s, .int .i64 (b.v : Int), .int .i64 (Ag.epoch b)] := Hx
  refine Fw.s (Fw.val_assign rfl) rfl ?_
  refine Fw.nil ?_
  refine hK13 _ _ ?_
  refine Fw.ret ?_
  refine Fw.ret_ [.cell 6 60, .tmp 7] [_, _] Try.results17 (Fw.ResL.cellM rfl ag60 (Fw.rdBlk Hx) rfl (.tmp rfl .nil)) ?_
  have e0 : Ag.reportB E a t g = true := by unfold Ag.reportB; rw [← hb_]; exact decide_eq_true (.inr (of_decide_eq_true (hdu.symm.trans b2)))
  have e1 : Ag.report E u a t g = { b with l := Ag.says u b, r := b.n } := by unfold Ag.report; rw [if_pos e0, ← hb_]
  have e2 : Ag.reportS E u a t g = Ag.says u b := by unfold Ag.reportS; rw [if_pos e0, ← hb_]
  rw [e0, e1, e2]
  exact ⟨rfl, ⟨A2, c2, HA, HP, hpcb, HF, HG⟩, HC⟩
  rintro b2
  refine Fw.gT (d := 72) rfl rfl ?_
  refine Fw.s (Fw.val_not rfl) rfl ?_
  refine Fw.s (Fw.val_pickT rfl rfl) rfl ?_
  refine Fw.nil ?_
  refine hK7 _ _ (Fw.FC.sub (f' := [(75, _), (0, _), (6, _), (8, _)]) (.cons rfl (.cons rfl (.cons rfl (.cons rfl .nil)))) ?_)
  refine Fw.condT rfl ?_
  refine Fw.seq fun _ hK14 => ?_
  refine Fw.region ?_
  refine Fw.s (Fw.val_build (ps := []) rfl (bu60_)) rfl ?_
  refine Fw.storeW sz60 rfl rfl Hx rfl rfl (by exact Fw.oneCells rfl) ?_
  intro w14 N_ hc
  replace HA := HA.chg hc (by omega)
  replace HP := HP.chg hc (Fw.RdT.ne_ HP Hx (by decide))
  replace HF := HF.chg hc (by omega)
  replace HG := HG.kp ((Fw.Kp.refl [60] _).one hc Hx rfl) rfl rfl rfl rfl
  replace HC := HC.trans hc (fun k hk_ e => by first | exact e | (left; exact e) | (right; exact e) | (exfalso; omega))
  clear hc
  clear Hx
  have Hx := N_
  clear N_
  replace Hx : Blk w14 gx 60 #[.int .i64 0, .int .i64 0, .int .i64 0, .int .i64 0, .int .i64 0] := Hx
  refine Fw.s (Fw.val_assign rfl) rfl ?_
  refine Fw.nil ?_
  refine hK14 _ _ ?_
  refine Fw.ret ?_
  refine Fw.X_ret ?_
  refine Fw.ret_ [.cell 6 60, .tmp 7] [_, _] Try.results17 (Fw.ResL.cellM rfl ag60 (Fw.rdBlk Hx) rfl (.tmp rfl .nil)) ?_
  have e0 : Ag.reportB E a t g = false := by
    unfold Ag.reportB; rw [← hb_]
    exact decide_eq_false (fun q => q.elim (of_decide_eq_false (hch.symm.trans b1)) (of_decide_eq_false (hdu.symm.trans b2)))
  have e1 : Ag.report E u a t g = b := by unfold Ag.report; rw [if_neg (by rw [e0]; decide), ← hb_]
  have e2 : Ag.reportS E u a t g = Ag.nil_ := by unfold Ag.reportS; rw [if_neg (by rw [e0]; decide)]
  rw [e0, e1, e2]
  exact ⟨rfl, ⟨A2, c2, HA, HP, hpcb, HF, HG⟩, HC⟩
  refine Fw.regionQ (by kernel_rfl) (by kernel_rfl) ?_
  refine Fw.q (Fw.val_move rfl) rfl ?_
  refine Fw.q2 (Fw.val_bin rfl rfl Fw.b_gtr) rfl ?_ ?_
  rintro d1
  refine Fw.q (Fw.val_move rfl) rfl ?_
  refine Fw.gTQ (d := 57) rfl rfl ?_
  refine Fw.q (Fw.val_move rfl) rfl ?_
  refine Fw.gTQ (d := 57) rfl rfl ?_
  refine Fw.q (Fw.val_nil rfl) rfl ?_
  refine Fw.gTQ (d := 57) rfl rfl ?_
  refine Fw.q (Fw.val_fieldAddr fl89_9 rfl rfl) rfl ?_
  refine Fw.gTQ (d := 57) rfl rfl ?_
  refine Fw.ldQ sc2 rfl (HA.cell 9) rfl ?_
  refine Fw.gTQ (d := 57) rfl rfl ?_
  refine Fw.q (Fw.val_move rfl) rfl ?_
  refine Fw.gTQ (d := 57) rfl rfl ?_
  refine Fw.q (Fw.val_nil rfl) rfl ?_
  refine Fw.gTQ (d := 57) rfl rfl ?_
  refine Fw.q (Fw.val_fieldAddr fl89_11 rfl rfl) rfl ?_
  refine Fw.gTQ (d := 57) rfl rfl ?_
  refine Fw.ldQ sc2 rfl (HA.cell 15) rfl ?_
  refine Fw.gTQ (d := 57) rfl rfl ?_
  refine Fw.q (Fw.val_bin rfl rfl (Fw.b_sub (Fw.i64_ok (by have := hgb.zn; have := hgb.rn; omega)))) rfl ?_
  refine Fw.gTQ (d := 57) rfl rfl ?_
  refine Fw.q (Fw.val_move rfl) rfl ?_
  refine Fw.gTQ (d := 57) rfl rfl ?_
  refine Fw.q2 (Fw.val_bin rfl rfl Fw.b_geq) rfl ?_ ?_
  rintro d2
  refine Fw.q (Fw.val_pickT rfl rfl) rfl ?_
  refine Fw.q (Fw.val_assign rfl) rfl ?_
  refine Fw.nilQ ?_
  intro w15 hb
  replace HA := HA.low hb
  replace HP := HP.low hb
  replace HF := HF.low hb
  replace HG := HG.low hb
  replace Hx := Hx.low hb
  replace HC := HC.trans (Chg.of_below hb (· = p)) (fun _ _ h => h)
  clear hb
  exact hK5 _ _ true ⟨HA, HP, HF, HG, Hx, (decide_eq_true ⟨d1, d2⟩).symm, HC⟩ (.cons rfl (.cons rfl (.cons rfl (.cons rfl (.cons rfl (.cons rfl .nil))))))
  rintro d2
  refine Fw.q (Fw.val_pickT rfl rfl) rfl ?_
  refine Fw.q (Fw.val_assign rfl) rfl ?_
  refine Fw.nilQ ?_
  intro w16 hb
  replace HA := HA.low hb
  replace HP := HP.low hb
  replace HF := HF.low hb
  replace HG := HG.low hb
  replace Hx := Hx.low hb
  replace HC := HC.trans (Chg.of_below hb (· = p)) (fun _ _ h => h)
  clear hb
  exact hK5 _ _ false ⟨HA, HP, HF, HG, Hx, (decide_eq_false (fun q => d2 q.2)).symm, HC⟩ (.cons rfl (.cons rfl (.cons rfl (.cons rfl (.cons rfl (.cons rfl .nil))))))
  rintro d1
  refine Fw.q (Fw.val_move rfl) rfl ?_
  refine Fw.gFQ (d := 57) rfl rfl rfl rfl ?_
  refine Fw.gFQ (d := 57) rfl rfl rfl rfl ?_
  refine Fw.gFQ (d := 57) rfl rfl rfl rfl ?_
  refine Fw.gFQ (d := 57) rfl rfl rfl rfl ?_
  refine Fw.gFQ (d := 57) rfl rfl rfl rfl ?_
  refine Fw.gFQ (d := 57) rfl rfl rfl rfl ?_
  refine Fw.gFQ (d := 57) rfl rfl rfl rfl ?_
  refine Fw.gFQ (d := 57) rfl rfl rfl rfl ?_
  refine Fw.gFQ (d := 57) rfl rfl rfl rfl ?_
  refine Fw.gFQ (d := 57) rfl rfl rfl rfl ?_
  refine Fw.gFQ (d := 57) rfl rfl rfl rfl ?_
  refine Fw.q (Fw.val_pickF rfl rfl) rfl ?_
  refine Fw.q (Fw.val_assign rfl) rfl ?_
  refine Fw.nilQ ?_
  intro w17 hb
  replace HA := HA.low hb
  replace HP := HP.low hb
  replace HF := HF.low hb
  replace HG := HG.low hb
  replace Hx := Hx.low hb
  replace HC := HC.trans (Chg.of_below hb (· = p)) (fun _ _ h => h)
  clear hb
  exact hK5 _ _ false ⟨HA, HP, HF, HG, Hx, (decide_eq_false (fun q => d1 q.1)).symm, HC⟩ (.cons rfl (.cons rfl (.cons rfl (.cons rfl (.cons rfl (.cons rfl .nil))))))
  refine Fw.regionQ (by kernel_rfl) (by kernel_rfl) ?_
  refine Fw.q (Fw.val_move rfl) rfl ?_
  refine Fw.q (Fw.val_nil rfl) rfl ?_
  refine Fw.q (Fw.val_fieldAddr fl89_10 rfl rfl) rfl ?_
  refine Fw.q (Fw.val_fieldAddr fl60_1 rfl rfl) rfl ?_
  refine Fw.ldQ sc2 rfl (HA.cell 11) rfl ?_
  refine Fw.q2 (Fw.val_bin rfl rfl Fw.b_eql) rfl ?_ ?_
  rintro t1
  refine Fw.q (Fw.val_move rfl) rfl ?_
  refine Fw.gFQ (d := 22) rfl rfl rfl rfl ?_
  refine Fw.gFQ (d := 22) rfl rfl rfl rfl ?_
  refine Fw.gFQ (d := 22) rfl rfl rfl rfl ?_
  refine Fw.gFQ (d := 22) rfl rfl rfl rfl ?_
  refine Fw.gFQ (d := 22) rfl rfl rfl rfl ?_
  refine Fw.gFQ (d := 22) rfl rfl rfl rfl ?_
  refine Fw.gFQ (d := 22) rfl rfl rfl rfl ?_
  refine Fw.gFQ (d := 22) rfl rfl rfl rfl ?_
  refine Fw.gFQ (d := 22) rfl rfl rfl rfl ?_
  refine Fw.gFQ (d := 22) rfl rfl rfl rfl ?_
  refine Fw.q (Fw.val_pickT rfl rfl) rfl ?_
  refine Fw.q (Fw.val_move rfl) rfl ?_
  refine Fw.gFQ (d := 34) rfl rfl rfl rfl ?_
  refine Fw.gFQ (d := 34) rfl rfl rfl rfl ?_
  refine Fw.gFQ (d := 34) rfl rfl rfl rfl ?_
  refine Fw.gFQ (d := 34) rfl rfl rfl rfl ?_
  refine Fw.gFQ (d := 34) rfl rfl rfl rfl ?_
  refine Fw.gFQ (d := 34) rfl rfl rfl rfl ?_
  refine Fw.gFQ (d := 34) rfl rfl rfl rfl ?_
  refine Fw.gFQ (d := 34) rfl rfl rfl rfl ?_
  refine Fw.gFQ (d := 34) rfl rfl rfl rfl ?_
  refine Fw.gFQ (d := 34) rfl rfl rfl rfl ?_
  refine Fw.q (Fw.val_pickT rfl rfl) rfl ?_
  refine Fw.q (Fw.val_move rfl) rfl ?_
  refine Fw.gFQ (d := 46) rfl rfl rfl rfl ?_
  refine Fw.gFQ (d := 46) rfl rfl rfl rfl ?_
  refine Fw.gFQ (d := 46) rfl rfl rfl rfl ?_
  refine Fw.gFQ (d := 46) rfl rfl rfl rfl ?_
  refine Fw.gFQ (d := 46) rfl rfl rfl rfl ?_
  refine Fw.gFQ (d := 46) rfl rfl rfl rfl ?_
  refine Fw.gFQ (d := 46) rfl rfl rfl rfl ?_
  refine Fw.q (Fw.val_pickT rfl rfl) rfl ?_
  refine Fw.q (Fw.val_assign rfl) rfl ?_
  refine Fw.nilQ ?_
  intro w18 hb
  replace HA := HA.low hb
  replace HF := HF.low hb
  replace HP := HP.low hb
  replace HG := HG.low hb
  replace Hx := Hx.low hb
  replace HC := HC.trans (Chg.of_below hb (· = p)) (fun _ _ h => h)
  clear hb
  exact hK4 _ _ true ⟨HA, HP, HF, HG, Hx, (decide_eq_true (.inl t1)).symm, HC⟩ (.cons rfl (.cons rfl (.cons rfl (.cons rfl (.cons rfl .nil)))))
  rintro t1
  refine Fw.q (Fw.val_move rfl) rfl ?_
  refine Fw.gTQ (d := 22) rfl rfl ?_
  refine Fw.q (Fw.val_move rfl) rfl ?_
  refine Fw.gTQ (d := 22) rfl rfl ?_
  refine Fw.q (Fw.val_nil rfl) rfl ?_
  refine Fw.gTQ (d := 22) rfl rfl ?_
  refine Fw.q (Fw.val_fieldAddr fl89_10 rfl rfl) rfl ?_
  refine Fw.gTQ (d := 22) rfl rfl ?_
  refine Fw.q (Fw.val_fieldAddr fl60_2 rfl rfl) rfl ?_
  refine Fw.gTQ (d := 22) rfl rfl ?_
  refine Fw.ldQ sc3 rfl (HA.cell 12) rfl ?_
  refine Fw.gTQ (d := 22) rfl rfl ?_
  refine Fw.q (Fw.val_move rfl) rfl ?_
  refine Fw.gTQ (d := 22) rfl rfl ?_
  refine Fw.q (Fw.val_nil rfl) rfl ?_
  refine Fw.gTQ (d := 22) rfl rfl ?_
  refine Fw.q (Fw.val_fieldAddr fl89_3 rfl rfl) rfl ?_
  refine Fw.gTQ (d := 22) rfl rfl ?_
  refine Fw.ldQ sc3 rfl (HA.cell 3) rfl ?_
  refine Fw.gTQ (d := 22) rfl rfl ?_
  refine Fw.q2 (Fw.val_bin rfl rfl Fw.b_neq) rfl ?_ ?_
  rintro t2
  refine Fw.q (Fw.val_pickF rfl rfl) rfl ?_
  refine Fw.q (Fw.val_move rfl) rfl ?_
  refine Fw.gFQ (d := 34) rfl rfl rfl rfl ?_
  refine Fw.gFQ (d := 34) rfl rfl rfl rfl ?_
  refine Fw.gFQ (d := 34) rfl rfl rfl rfl ?_
  refine Fw.gFQ (d := 34) rfl rfl rfl rfl ?_
  refine Fw.gFQ (d := 34) rfl rfl rfl rfl ?_
  refine Fw.gFQ (d := 34) rfl rfl rfl rfl ?_
  refine Fw.gFQ (d := 34) rfl rfl rfl rfl ?_
  refine Fw.gFQ (d := 34) rfl rfl rfl rfl ?_
  refine Fw.gFQ (d := 34) rfl rfl rfl rfl ?_
  refine Fw.gFQ (d := 34) rfl rfl rfl rfl ?_
  refine Fw.q (Fw.val_pickT rfl rfl) rfl ?_
  refine Fw.q (Fw.val_move rfl) rfl ?_
  refine Fw.gFQ (d := 46) rfl rfl rfl rfl ?_
  refine Fw.gFQ (d := 46) rfl rfl rfl rfl ?_
  refine Fw.gFQ (d := 46) rfl rfl rfl rfl ?_
  refine Fw.gFQ (d := 46) rfl rfl rfl rfl ?_
  refine Fw.gFQ (d := 46) rfl rfl rfl rfl ?_
  refine Fw.gFQ (d := 46) rfl rfl rfl rfl ?_
  refine Fw.gFQ (d := 46) rfl rfl rfl rfl ?_
  refine Fw.q (Fw.val_pickT rfl rfl) rfl ?_
  refine Fw.q (Fw.val_assign rfl) rfl ?_
  refine Fw.nilQ ?_
  intro w19 hb
  replace HA := HA.low hb
  replace HF := HF.low hb
  replace HP := HP.low hb
  replace HG := HG.low hb
  replace Hx := Hx.low hb
  replace HC := HC.trans (Chg.of_below hb (· = p)) (fun _ _ h => h)
  clear hb
  exact hK4 _ _ true ⟨HA, HP, HF, HG, Hx, (decide_eq_true (.inr (.inl t2))).symm, HC⟩ (.cons rfl (.cons rfl (.cons rfl (.cons rfl (.cons rfl .nil)))))
  rintro t2
  refine Fw.q (Fw.val_pickF rfl rfl) rfl ?_
  refine Fw.q (Fw.val_move rfl) rfl ?_
  refine Fw.gTQ (d := 34) rfl rfl ?_
  refine Fw.q (Fw.val_move rfl) rfl ?_
  refine Fw.gTQ (d := 34) rfl rfl ?_
  refine Fw.q (Fw.val_nil rfl) rfl ?_
  refine Fw.gTQ (d := 34) rfl rfl ?_
  refine Fw.q (Fw.val_fieldAddr fl89_10 rfl rfl) rfl ?_
  refine Fw.gTQ (d := 34) rfl rfl ?_
  refine Fw.q (Fw.val_fieldAddr fl60_3 rfl rfl) rfl ?_
  refine Fw.gTQ (d := 34) rfl rfl ?_
  refine Fw.ldQ sc3 rfl (HA.cell 13) rfl ?_
  refine Fw.gTQ (d := 34) rfl rfl ?_
  refine Fw.q (Fw.val_move rfl) rfl ?_
  refine Fw.gTQ (d := 34) rfl rfl ?_
  refine Fw.q (Fw.val_nil rfl) rfl ?_
  refine Fw.gTQ (d := 34) rfl rfl ?_
  refine Fw.q (Fw.val_fieldAddr fl89_4 rfl rfl) rfl ?_
  refine Fw.gTQ (d := 34) rfl rfl ?_
  refine Fw.ldQ sc3 rfl (HA.cell 4) rfl ?_
  refine Fw.gTQ (d := 34) rfl rfl ?_
  refine Fw.q2 (Fw.val_bin rfl rfl Fw.b_neq) rfl ?_ ?_
  rintro t3
  refine Fw.q (Fw.val_pickF rfl rfl) rfl ?_
  refine Fw.q (Fw.val_move rfl) rfl ?_
  refine Fw.gFQ (d := 46) rfl rfl rfl rfl ?_
  refine Fw.gFQ (d := 46) rfl rfl rfl rfl ?_
  refine Fw.gFQ (d := 46) rfl rfl rfl rfl ?_
  refine Fw.gFQ (d := 46) rfl rfl rfl rfl ?_
  refine Fw.gFQ (d := 46) rfl rfl rfl rfl ?_
  refine Fw.gFQ (d := 46) rfl rfl rfl rfl ?_
  refine Fw.gFQ (d := 46) rfl rfl rfl rfl ?_
  refine Fw.q (Fw.val_pickT rfl rfl) rfl ?_
  refine Fw.q (Fw.val_assign rfl) rfl ?_
  refine Fw.nilQ ?_
  intro w20 hb
  replace HA := HA.low hb
  replace HF := HF.low hb
  replace HP := HP.low hb
  replace HG := HG.low hb
  replace Hx := Hx.low hb
  replace HC := HC.trans (Chg.of_below hb (· = p)) (fun _ _ h => h)
  clear hb
  exact hK4 _ _ true ⟨HA, HP, HF, HG, Hx, (decide_eq_true (.inr (.inr (.inl t3)))).symm, HC⟩ (.cons rfl (.cons rfl (.cons rfl (.cons rfl (.cons rfl .nil)))))
  rintro t3
  refine Fw.q (Fw.val_pickF rfl rfl) rfl ?_
  refine Fw.q (Fw.val_move rfl) rfl ?_
  refine Fw.gTQ (d := 46) rfl rfl ?_
  refine Fw.q (Fw.val_move rfl) rfl ?_
  refine Fw.gTQ (d := 46) rfl rfl ?_
  refine Fw.q (Fw.val_nil rfl) rfl ?_
  refine Fw.gTQ (d := 46) rfl rfl ?_
  refine Fw.q (Fw.val_fieldAddr fl89_10 rfl rfl) rfl ?_
  refine Fw.gTQ (d := 46) rfl rfl ?_
  refine Fw.q (Fw.val_fieldAddr fl60_4 rfl rfl) rfl ?_
  refine Fw.gTQ (d := 46) rfl rfl ?_
  refine Fw.ldQ sc2 rfl (HA.cell 14) rfl ?_
  refine Fw.gTQ (d := 46) rfl rfl ?_
  refine Fw.q (Fw.val_move rfl) rfl ?_
  refine Fw.gTQ (d := 46) rfl rfl ?_
  refine Fw.q2 (Fw.val_bin rfl rfl Fw.b_neq) rfl ?_ ?_
  rintro t4
  refine Fw.q (Fw.val_pickF rfl rfl) rfl ?_
  refine Fw.q (Fw.val_assign rfl) rfl ?_
  refine Fw.nilQ ?_
  intro w21 hb
  replace HA := HA.low hb
  replace HF := HF.low hb
  replace HP := HP.low hb
  replace HG := HG.low hb
  replace Hx := Hx.low hb
  replace HC := HC.trans (Chg.of_below hb (· = p)) (fun _ _ h => h)
  clear hb
  exact hK4 _ _ true ⟨HA, HP, HF, HG, Hx, (decide_eq_true (.inr (.inr (.inr t4)))).symm, HC⟩ (.cons rfl (.cons rfl (.cons rfl (.cons rfl (.cons rfl .nil)))))
  rintro t4
  refine Fw.q (Fw.val_pickF rfl rfl) rfl ?_
  refine Fw.q (Fw.val_assign rfl) rfl ?_
  refine Fw.nilQ ?_
  intro w22 hb
  replace HA := HA.low hb
  replace HF := HF.low hb
  replace HP := HP.low hb
  replace HG := HG.low hb
  replace Hx := Hx.low hb
  replace HC := HC.trans (Chg.of_below hb (· = p)) (fun _ _ h => h)
  clear hb
  exact hK4 _ _ false ⟨HA, HP, HF, HG, Hx, (decide_eq_false (fun q => by unfold Ag.changed at q; omega)).symm, HC⟩ (.cons rfl (.cons rfl (.cons rfl (.cons rfl (.cons rfl .nil)))))

set_option maxRecDepth 100000 in
set_option maxHeartbeats 1000000 in
theorem newAgent_any (w : World) (pg N : Nat) (E : List Rg.Ed) (hG : Rg.GT w pg N E) (u v : Int) (hu : 0 ≤ u ∧ u ≤ 255) (hv : 0 ≤ v ∧ v < N) : Calls Try.prog 7 #[.int .i64 u, .int .i64 v, .pointer (some ⟨pg, 0, none⟩)] w fun e_ w' => ∃ p pf, e_ = .returned (.tuple #[.pointer (some ⟨p, 0, none⟩), .int .i64 0]) ∧ w.heap.size ≤ p ∧ w.heap.size ≤ pf ∧ AgAt w' p pf pg N E u (Ag.new u v.toNat) ∧ Below w.heap.size w w' := by
  obtain ⟨n, rfl⟩ : ∃ n : Nat, v = n := ⟨v.toNat, by omega⟩
  rw [Int.toNat_natCast]
  refine Fw.calls Try.func7 rfl Try.ntmps7 rfl ?_
  have HB := Below.refl (w.heap.size) w
  refine Fw.seq fun _ hK1 => ?_
  refine Fw.region ?_
  refine Fw.s (Fw.val_assign rfl) rfl ?_
  refine Fw.s (Fw.val_assign rfl) rfl ?_
  refine Fw.nil ?_
  refine hK1 _ _ ?_
  refine Fw.seq fun _ hK2 => ?_
  refine Fw.seq fun _ hK3 => ?_
  refine Fw.region ?_
  refine Fw.s (Fw.val_move rfl) rfl ?_
  refine Fw.s (Fw.Val.F (Fw.val_bin rfl rfl Fw.b_lss) (by omega)) rfl ?_
  refine Fw.s (Fw.val_move rfl) rfl ?_
  refine Fw.gT (d := 12) rfl rfl ?_
  refine Fw.s (Fw.val_move rfl) rfl ?_
  refine Fw.gT (d := 12) rfl rfl ?_
  refine Fw.s (Fw.Val.F (Fw.val_bin rfl rfl Fw.b_geq) (by omega)) rfl ?_
  refine Fw.s (Fw.val_pickF rfl rfl) rfl ?_
  refine Fw.s (Fw.val_move rfl) rfl ?_
  refine Fw.gT (d := 16) rfl rfl ?_
  refine Fw.s (Fw.val_move rfl) rfl ?_
  refine Fw.gT (d := 16) rfl rfl ?_
  refine Fw.s (Fw.val_bin rfl rfl (Fw.b_nilP Try.underlying24)) rfl ?_
  refine Fw.s (Fw.val_pickF rfl rfl) rfl ?_
  refine Fw.s (Fw.val_move rfl) rfl ?_
  refine Fw.gT (d := 20) rfl rfl ?_
  refine Fw.s (Fw.val_move rfl) rfl ?_
  refine Fw.gT (d := 20) rfl rfl ?_
  refine Fw.s (Fw.Val.F (Fw.val_bin rfl rfl Fw.b_lss) (by omega)) rfl ?_
  refine Fw.s (Fw.val_pickF rfl rfl) rfl ?_
  refine Fw.s (Fw.val_move rfl) rfl ?_
  refine Fw.gT (d := 24) rfl rfl ?_
  refine Fw.s (Fw.val_move rfl) rfl ?_
  refine Fw.gT (d := 24) rfl rfl ?_
  refine Fw.s (Fw.val_move rfl) rfl ?_
  refine Fw.gT (d := 24) rfl rfl ?_
  refine Fw.call cf29 rfl rfl (nodes_any _ pg N E (hG.at_.low HB)) ?_
  rintro e_ _ ⟨rfl, rfl⟩
  refine ⟨_, rfl, ?_⟩
  refine Fw.gT (d := 24) rfl rfl ?_
  refine Fw.s (Fw.Val.F (Fw.val_bin rfl rfl Fw.b_geq) (by omega)) rfl ?_
  refine Fw.s (Fw.val_pickF rfl rfl) rfl ?_
  refine Fw.nil ?_
  refine hK3 _ _ (Fw.FC.sub (f' := [(29, _), (0, _), (1, _), (2, _)]) (.cons rfl (.cons rfl (.cons rfl (.cons rfl .nil)))) ?_)
  refine Fw.condF rfl ?_
  refine Fw.skip ?_
  refine hK2 _ _ ?_
  refine Fw.seq fun _ hK4 => ?_
  refine Fw.region ?_
  refine Fw.s (Fw.val_move rfl) rfl ?_
  refine Fw.call cf30 rfl rfl (newFence_any u _ (decide_eq_true (by omega))) ?_
  rintro e_ w1 ⟨gf, rfl, lgf, HF, hb⟩
  refine ⟨_, rfl, ?_⟩
  have hz1 := HB.size
  replace HB := HB.trans (hb.mono HB.size)
  clear hb
  refine Fw.s (Fw.val_move rfl) rfl ?_
  refine Fw.s (Fw.val_extract rfl rfl) rfl ?_
  refine Fw.s (Fw.val_extract rfl rfl) rfl ?_
  refine Fw.s (Fw.val_assign rfl) rfl ?_
  refine Fw.s (Fw.val_assign rfl) rfl ?_
  refine Fw.nil ?_
  refine hK4 _ _ ?_
  refine Fw.seq fun _ hK5 => ?_
  refine Fw.seq fun _ hK6 => ?_
  refine Fw.region ?_
  refine Fw.s (Fw.val_move rfl) rfl ?_
  refine Fw.s (Fw.Val.F (Fw.val_bin rfl rfl Fw.b_neq) (by decide)) rfl ?_
  refine Fw.nil ?_
  refine hK6 _ _ (Fw.FC.sub (f' := [(36, _), (8, _), (0, _), (1, _), (2, _)]) (.cons rfl (.cons rfl (.cons rfl (.cons rfl (.cons rfl .nil))))) ?_)
  refine Fw.condF rfl ?_
  refine Fw.skip ?_
  refine hK5 _ _ ?_
  refine Fw.seq fun _ hK7 => ?_
  refine Fw.region ?_
  refine Fw.s (Fw.val_move rfl) rfl ?_
  refine Fw.s (Fw.val_move rfl) rfl ?_
  refine Fw.s (Fw.val_move rfl) rfl ?_
  refine Fw.s (Fw.val_move rfl) rfl ?_
  refine Fw.s (Fw.val_move rfl) rfl ?_
  refine Fw.s (Fw.val_build (ps := [(0, _), (1, _), (2, _), (3, _), (4, _), (6, _)]) rfl (bu89_0_1_2_3_4_6 _ _ _ _ _ _)) rfl ?_
  refine Fw.box rfl rfl ?_
  intro w2 gp egp Hp hb
  have n_gf_gp : gf < gp := by have := HF.lt; omega
  have lgp : w.heap.size ≤ gp := by have := HB.size; omega
  replace HF := HF.low hb
  replace HB := HB.trans (hb.mono HB.size)
  clear hb
  clear egp
  refine Fw.s (Fw.val_assign rfl) rfl ?_
  refine Fw.s (Fw.val_assign rfl) rfl ?_
  refine Fw.nil ?_
  refine hK7 _ _ (Fw.FC.sub (f' := [(7, _), (6, _)]) (.cons rfl (.cons rfl .nil)) ?_)
  refine Fw.ret ?_
  refine Fw.ret_ [.tmp 6, .tmp 7] [_, _] Try.results7 (.tmp rfl (.tmp rfl .nil)) ?_
  exact ⟨gp, gf, rfl, lgp, by omega, ⟨none, 0, Hp, Fw.RdT.nil _ _, Nat.zero_le _, HF, hG.low HB⟩, HB⟩

set_option maxRecDepth 100000 in
set_option maxHeartbeats 1000000 in
theorem newAgent_bad (w : World) (pg N : Nat) (E : List Rg.Ed) (hG : Rg.GT w pg N E) (u v : Int) (hb_ : ¬ ((0 ≤ u ∧ u ≤ 255) ∧ (0 ≤ v ∧ v < N))) : Calls Try.prog 7 #[.int .i64 u, .int .i64 v, .pointer (some ⟨pg, 0, none⟩)] w fun e_ w' => e_ = .returned (.tuple #[.pointer none, .int .i64 1]) ∧ Below w.heap.size w w' := by
  refine Fw.calls Try.func7 rfl Try.ntmps7 rfl ?_
  have HB := Below.refl (w.heap.size) w
  refine Fw.seq fun _ hK1 => ?_
  refine Fw.region ?_
  refine Fw.s (Fw.val_assign rfl) rfl ?_
  refine Fw.s (Fw.val_assign rfl) rfl ?_
  refine Fw.nil ?_
  refine hK1 _ _ ?_
  refine Fw.seq fun _ hK2 => ?_
  refine Fw.seq fun _ hK3 => ?_
  refine Fw.region ?_
  refine Fw.s (Fw.val_move rfl) rfl ?_
  refine Fw.s2 (Fw.val_bin rfl rfl Fw.b_lss) rfl ?_ ?_
  rintro k1
  refine Fw.s (Fw.val_move rfl) rfl ?_
  refine Fw.gF (d := 12) rfl rfl rfl rfl ?_
  refine Fw.gF (d := 12) rfl rfl rfl rfl ?_
  refine Fw.s (Fw.val_pickT rfl rfl) rfl ?_
  refine Fw.s (Fw.val_move rfl) rfl ?_
  refine Fw.gF (d := 16) rfl rfl rfl rfl ?_
  refine Fw.gF (d := 16) rfl rfl rfl rfl ?_
  refine Fw.s (Fw.val_pickT rfl rfl) rfl ?_
  refine Fw.s (Fw.val_move rfl) rfl ?_
  refine Fw.gF (d := 20) rfl rfl rfl rfl ?_
  refine Fw.gF (d := 20) rfl rfl rfl rfl ?_
  refine Fw.s (Fw.val_pickT rfl rfl) rfl ?_
  refine Fw.s (Fw.val_move rfl) rfl ?_
  refine Fw.gF (d := 24) rfl rfl rfl rfl ?_
  refine Fw.gF (d := 24) rfl rfl rfl rfl ?_
  refine Fw.gF (d := 24) rfl rfl rfl rfl ?_
  refine Fw.gF (d := 24) rfl rfl rfl rfl ?_
  refine Fw.s (Fw.val_pickT rfl rfl) rfl ?_
  refine Fw.nil ?_
  refine hK3 _ _ (Fw.FC.sub (f' := [(29, _), (0, _), (1, _), (2, _)]) (.cons rfl (.cons rfl (.cons rfl (.cons rfl .nil)))) ?_)
  refine Fw.condT rfl ?_
  refine Fw.seq fun _ hK5 => ?_
  refine Fw.region ?_
  refine Fw.s (Fw.val_assign rfl) rfl ?_
  refine Fw.s (Fw.val_assign rfl) rfl ?_
  refine Fw.nil ?_
  refine hK5 _ _ ?_
  refine Fw.ret ?_
  refine Fw.X_ret ?_
  refine Fw.ret_ [.tmp 6, .tmp 7] [_, _] Try.results7 (.tmp rfl (.tmp rfl .nil)) ?_
  exact ⟨rfl, HB⟩
  rintro k1
  refine Fw.s (Fw.val_move rfl) rfl ?_
  refine Fw.gT (d := 12) rfl rfl ?_
  refine Fw.s (Fw.val_move rfl) rfl ?_
  refine Fw.gT (d := 12) rfl rfl ?_
  refine Fw.s2 (Fw.val_bin rfl rfl Fw.b_geq) rfl ?_ ?_
  rintro k2
  refine Fw.s (Fw.val_pickF rfl rfl) rfl ?_
  refine Fw.s (Fw.val_move rfl) rfl ?_
  refine Fw.gF (d := 16) rfl rfl rfl rfl ?_
  refine Fw.gF (d := 16) rfl rfl rfl rfl ?_
  refine Fw.s (Fw.val_pickT rfl rfl) rfl ?_
  refine Fw.s (Fw.val_move rfl) rfl ?_
  refine Fw.gF (d := 20) rfl rfl rfl rfl ?_
  refine Fw.gF (d := 20) rfl rfl rfl rfl ?_
  refine Fw.s (Fw.val_pickT rfl rfl) rfl ?_
  refine Fw.s (Fw.val_move rfl) rfl ?_
  refine Fw.gF (d := 24) rfl rfl rfl rfl ?_
  refine Fw.gF (d := 24) rfl rfl rfl rfl ?_
  refine Fw.gF (d := 24) rfl rfl rfl rfl ?_
  refine Fw.gF (d := 24) rfl rfl rfl rfl ?_
  refine Fw.s (Fw.val_pickT rfl rfl) rfl ?_
  refine Fw.nil ?_
  refine hK3 _ _ (Fw.FC.sub (f' := [(29, _), (0, _), (1, _), (2, _)]) (.cons rfl (.cons rfl (.cons rfl (.cons rfl .nil)))) ?_)
  refine Fw.condT rfl ?_
  refine Fw.seq fun _ hK7 => ?_
  refine Fw.region ?_
  refine Fw.s (Fw.val_assign rfl) rfl ?_
  refine Fw.s (Fw.val_assign rfl) rfl ?_
  refine Fw.nil ?_
  refine hK7 _ _ ?_
  refine Fw.ret ?_
  refine Fw.X_ret ?_
  refine Fw.ret_ [.tmp 6, .tmp 7] [_, _] Try.results7 (.tmp rfl (.tmp rfl .nil)) ?_
  exact ⟨rfl, HB⟩
  rintro k2
  refine Fw.s (Fw.val_pickF rfl rfl) rfl ?_
  refine Fw.s (Fw.val_move rfl) rfl ?_
  refine Fw.gT (d := 16) rfl rfl ?_
  refine Fw.s (Fw.val_move rfl) rfl ?_
  refine Fw.gT (d := 16) rfl rfl ?_
  refine Fw.s (Fw.val_bin rfl rfl (Fw.b_nilP Try.underlying24)) rfl ?_
  refine Fw.s (Fw.val_pickF rfl rfl) rfl ?_
  refine Fw.s (Fw.val_move rfl) rfl ?_
  refine Fw.gT (d := 20) rfl rfl ?_
  refine Fw.s (Fw.val_move rfl) rfl ?_
  refine Fw.gT (d := 20) rfl rfl ?_
  refine Fw.s2 (Fw.val_bin rfl rfl Fw.b_lss) rfl ?_ ?_
  rintro k3
  refine Fw.s (Fw.val_pickF rfl rfl) rfl ?_
  refine Fw.s (Fw.val_move rfl) rfl ?_
  refine Fw.gF (d := 24) rfl rfl rfl rfl ?_
  refine Fw.gF (d := 24) rfl rfl rfl rfl ?_
  refine Fw.gF (d := 24) rfl rfl rfl rfl ?_
  refine Fw.gF (d := 24) rfl rfl rfl rfl ?_
  refine Fw.s (Fw.val_pickT rfl rfl) rfl ?_
  refine Fw.nil ?_
  refine hK3 _ _ (Fw.FC.sub (f' := [(29, _), (0, _), (1, _), (2, _)]) (.cons rfl (.cons rfl (.cons rfl (.cons rfl .nil)))) ?_)
  refine Fw.condT rfl ?_
  refine Fw.seq fun _ hK9 => ?_
  refine Fw.region ?_
  refine Fw.s (Fw.val_assign rfl) rfl ?_
  refine Fw.s (Fw.val_assign rfl) rfl ?_
  refine Fw.nil ?_
  refine hK9 _ _ ?_
  refine Fw.ret ?_
  refine Fw.X_ret ?_
  refine Fw.ret_ [.tmp 6, .tmp 7] [_, _] Try.results7 (.tmp rfl (.tmp rfl .nil)) ?_
  exact ⟨rfl, HB⟩
  rintro k3
  refine Fw.s (Fw.val_pickF rfl rfl) rfl ?_
  refine Fw.s (Fw.val_move rfl) rfl ?_
  refine Fw.gT (d := 24) rfl rfl ?_
  refine Fw.s (Fw.val_move rfl) rfl ?_
  refine Fw.gT (d := 24) rfl rfl ?_
  refine Fw.s (Fw.val_move rfl) rfl ?_
  refine Fw.gT (d := 24) rfl rfl ?_
  refine Fw.call cf29 rfl rfl (nodes_any _ pg N E (hG.at_.low HB)) ?_
  rintro e_ _ ⟨rfl, rfl⟩
  refine ⟨_, rfl, ?_⟩
  refine Fw.gT (d := 24) rfl rfl ?_
  refine Fw.s (Fw.Val.T (Fw.val_bin rfl rfl Fw.b_geq) (by omega)) rfl ?_
  refine Fw.s (Fw.val_pickF rfl rfl) rfl ?_
  refine Fw.nil ?_
  refine hK3 _ _ (Fw.FC.sub (f' := [(29, _), (0, _), (1, _), (2, _)]) (.cons rfl (.cons rfl (.cons rfl (.cons rfl .nil)))) ?_)
  refine Fw.condT rfl ?_
  refine Fw.seq fun _ hK10 => ?_
  refine Fw.region ?_
  refine Fw.s (Fw.val_assign rfl) rfl ?_
  refine Fw.s (Fw.val_assign rfl) rfl ?_
  refine Fw.nil ?_
  refine hK10 _ _ ?_
  refine Fw.ret ?_
  refine Fw.X_ret ?_
  refine Fw.ret_ [.tmp 6, .tmp 7] [_, _] Try.results7 (.tmp rfl (.tmp rfl .nil)) ?_
  exact ⟨rfl, HB⟩

set_option maxRecDepth 100000 in
set_option maxHeartbeats 1000000 in
theorem newAgent_nil (w : World) (u v : Int) : Calls Try.prog 7 #[.int .i64 u, .int .i64 v, .pointer none] w fun e_ w' => e_ = .returned (.tuple #[.pointer none, .int .i64 1]) ∧ Below w.heap.size w w' := by
  refine Fw.calls Try.func7 rfl Try.ntmps7 rfl ?_
  have HB := Below.refl (w.heap.size) w
  refine Fw.seq fun _ hK1 => ?_
  refine Fw.region ?_
  refine Fw.s (Fw.val_assign rfl) rfl ?_
  refine Fw.s (Fw.val_assign rfl) rfl ?_
  refine Fw.nil ?_
  refine hK1 _ _ ?_
  refine Fw.seq fun _ hK2 => ?_
  refine Fw.seq fun _ hK3 => ?_
  refine Fw.region ?_
  refine Fw.s (Fw.val_move rfl) rfl ?_
  refine Fw.s2 (Fw.val_bin rfl rfl Fw.b_lss) rfl ?_ ?_
  rintro k1
  refine Fw.s (Fw.val_move rfl) rfl ?_
  refine Fw.gF (d := 12) rfl rfl rfl rfl ?_
  refine Fw.gF (d := 12) rfl rfl rfl rfl ?_
  refine Fw.s (Fw.val_pickT rfl rfl) rfl ?_
  refine Fw.s (Fw.val_move rfl) rfl ?_
  refine Fw.gF (d := 16) rfl rfl rfl rfl ?_
  refine Fw.gF (d := 16) rfl rfl rfl rfl ?_
  refine Fw.s (Fw.val_pickT rfl rfl) rfl ?_
  refine Fw.s (Fw.val_move rfl) rfl ?_
  refine Fw.gF (d := 20) rfl rfl rfl rfl ?_
  refine Fw.gF (d := 20) rfl rfl rfl rfl ?_
  refine Fw.s (Fw.val_pickT rfl rfl) rfl ?_
  refine Fw.s (Fw.val_move rfl) rfl ?_
  refine Fw.gF (d := 24) rfl rfl rfl rfl ?_
  refine Fw.gF (d := 24) rfl rfl rfl rfl ?_
  refine Fw.gF (d := 24) rfl rfl rfl rfl ?_
  refine Fw.gF (d := 24) rfl rfl rfl rfl ?_
  refine Fw.s (Fw.val_pickT rfl rfl) rfl ?_
  refine Fw.nil ?_
  refine hK3 _ _ (Fw.FC.sub (f' := [(29, _), (0, _), (1, _), (2, _)]) (.cons rfl (.cons rfl (.cons rfl (.cons rfl .nil)))) ?_)
  refine Fw.condT rfl ?_
  refine Fw.seq fun _ hK5 => ?_
  refine Fw.region ?_
  refine Fw.s (Fw.val_assign rfl) rfl ?_
  refine Fw.s (Fw.val_assign rfl) rfl ?_
  refine Fw.nil ?_
  refine hK5 _ _ ?_
  refine Fw.ret ?_
  refine Fw.X_ret ?_
  refine Fw.ret_ [.tmp 6, .tmp 7] [_, _] Try.results7 (.tmp rfl (.tmp rfl .nil)) ?_
  exact ⟨rfl, HB⟩
  rintro k1
  refine Fw.s (Fw.val_move rfl) rfl ?_
  refine Fw.gT (d := 12) rfl rfl ?_
  refine Fw.s (Fw.val_move rfl) rfl ?_
  refine Fw.gT (d := 12) rfl rfl ?_
  refine Fw.s2 (Fw.val_bin rfl rfl Fw.b_geq) rfl ?_ ?_
  rintro k2
  refine Fw.s (Fw.val_pickF rfl rfl) rfl ?_
  refine Fw.s (Fw.val_move rfl) rfl ?_
  refine Fw.gF (d := 16) rfl rfl rfl rfl ?_
  refine Fw.gF (d := 16) rfl rfl rfl rfl ?_
  refine Fw.s (Fw.val_pickT rfl rfl) rfl ?_
  refine Fw.s (Fw.val_move rfl) rfl ?_
  refine Fw.gF (d := 20) rfl rfl rfl rfl ?_
  refine Fw.gF (d := 20) rfl rfl rfl rfl ?_
  refine Fw.s (Fw.val_pickT rfl rfl) rfl ?_
  refine Fw.s (Fw.val_move rfl) rfl ?_
  refine Fw.gF (d := 24) rfl rfl rfl rfl ?_
  refine Fw.gF (d := 24) rfl rfl rfl rfl ?_
  refine Fw.gF (d := 24) rfl rfl rfl rfl ?_
  refine Fw.gF (d := 24) rfl rfl rfl rfl ?_
  refine Fw.s (Fw.val_pickT rfl rfl) rfl ?_
  refine Fw.nil ?_
  refine hK3 _ _ (Fw.FC.sub (f' := [(29, _), (0, _), (1, _), (2, _)]) (.cons rfl (.cons rfl (.cons rfl (.cons rfl .nil)))) ?_)
  refine Fw.condT rfl ?_
  refine Fw.seq fun _ hK7 => ?_
  refine Fw.region ?_
  refine Fw.s (Fw.val_assign rfl) rfl ?_
  refine Fw.s (Fw.val_assign rfl) rfl ?_
  refine Fw.nil ?_
  refine hK7 _ _ ?_
  refine Fw.ret ?_
  refine Fw.X_ret ?_
  refine Fw.ret_ [.tmp 6, .tmp 7] [_, _] Try.results7 (.tmp rfl (.tmp rfl .nil)) ?_
  exact ⟨rfl, HB⟩
  rintro k2
  refine Fw.s (Fw.val_pickF rfl rfl) rfl ?_
  refine Fw.s (Fw.val_move rfl) rfl ?_
  refine Fw.gT (d := 16) rfl rfl ?_
  refine Fw.s (Fw.val_move rfl) rfl ?_
  refine Fw.gT (d := 16) rfl rfl ?_
  refine Fw.s (Fw.val_bin rfl rfl (Fw.b_nilP Try.underlying24)) rfl ?_
  refine Fw.s (Fw.val_pickF rfl rfl) rfl ?_
  refine Fw.s (Fw.val_move rfl) rfl ?_
  refine Fw.gF (d := 20) rfl rfl rfl rfl ?_
  refine Fw.gF (d := 20) rfl rfl rfl rfl ?_
  refine Fw.s (Fw.val_pickT rfl rfl) rfl ?_
  refine Fw.s (Fw.val_move rfl) rfl ?_
  refine Fw.gF (d := 24) rfl rfl rfl rfl ?_
  refine Fw.gF (d := 24) rfl rfl rfl rfl ?_
  refine Fw.gF (d := 24) rfl rfl rfl rfl ?_
  refine Fw.gF (d := 24) rfl rfl rfl rfl ?_
  refine Fw.s (Fw.val_pickT rfl rfl) rfl ?_
  refine Fw.nil ?_
  refine hK3 _ _ (Fw.FC.sub (f' := [(29, _), (0, _), (1, _), (2, _)]) (.cons rfl (.cons rfl (.cons rfl (.cons rfl .nil)))) ?_)
  refine Fw.condT rfl ?_
  refine Fw.seq fun _ hK8 => ?_
  refine Fw.region ?_
  refine Fw.s (Fw.val_assign rfl) rfl ?_
  refine Fw.s (Fw.val_assign rfl) rfl ?_
  refine Fw.nil ?_
  refine hK8 _ _ ?_
  refine Fw.ret ?_
  refine Fw.X_ret ?_
  refine Fw.ret_ [.tmp 6, .tmp 7] [_, _] Try.results7 (.tmp rfl (.tmp rfl .nil)) ?_
  exact ⟨rfl, HB⟩

end Go.Proofs.Ytodhpooddmeghaa
