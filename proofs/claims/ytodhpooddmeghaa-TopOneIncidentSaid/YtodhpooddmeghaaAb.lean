/- Layer 29: the agent: time passes; which orders it takes. -/
import Derived.Test.YtodhpooddmeghaaAa
namespace Go.Proofs.Ytodhpooddmeghaa
set_option linter.unusedSimpArgs false
set_option linter.unusedVariables false
open Go.RowKit

theorem cell_chg {S : Nat → Prop} {w w' : World} {ad : Addr} {v : Value} (h : w.cell? ad = some v) (hc : Chg S w w') (hn : ¬ S ad.block) : w'.cell? ad = some v := (World.cell?_of_block (hc.block _ (World.block_lt_of_cell? _ _ h) hn)).trans h
set_option maxRecDepth 100000 in
set_option maxHeartbeats 1000000 in
theorem pass_any (w : World) (p pf pg N : Nat) (E : List Rg.Ed) (u : Int) (a : Ag) (h : AgAt w p pf pg N E u a) (hg : Ag.Good N E u a) (t : Int) : Calls Try.prog 31 #[.pointer (some ⟨p, 0, none⟩), .int .i64 t] w fun e_ w' => e_ = .returned (.tuple #[]) ∧ AgAt w' p pf pg N E u (Ag.pass E a t) ∧ Chg (· = p) w w' := by
  obtain ⟨A, c, HA, HP, hpc, HF, HG⟩ := h
  have hpl := HA.lt
  have hfl := Blk.lt HF
  have n_pf : p ≠ pf := Blk.ne_ HA HF (by decide)
  have hm2 := Ag.now_le hg t
  have hzn := hg.zn
  obtain ⟨m, hm⟩ : ∃ m_, m_ = Ag.now a t := ⟨_, rfl⟩
  rw [← hm] at hm2
  refine Fw.calls Try.func31 rfl Try.ntmps31 rfl ?_
  have HC := Chg.refl (· = p) w
  refine Fw.seq fun _ hK1 => ?_
  refine Fw.regionHS (Chg (· = p) w) (by kernel_rfl) (Chg.of_below (Fw.drew_low w) _) ?_
  have R_HA := HA
  have R_HF := HF
  have R_HG := HG
  intro w1 hb HS
  replace HA := HA.low hb
  replace HF := HF.low hb
  replace HP := HP.low hb
  replace HG := HG.low hb
  replace HC := HC.trans (Chg.of_below hb (· = p)) (fun _ _ h => h)
  clear hb
  refine Fw.hTk 0 rfl rfl (Fw.yV (Fw.val_move rfl)) rfl ?_
  refine Fw.hTk 1 rfl rfl (Fw.yV (Fw.val_move rfl)) rfl ?_
  refine Fw.hTk 2 rfl rfl (Fw.yV (Fw.val_nil rfl)) rfl ?_
  refine Fw.hTk 3 rfl rfl (Fw.yV (Fw.val_fieldAddr fl89_9 rfl rfl)) rfl ?_
  refine Fw.hTk 5 rfl rfl (Fw.yV (Fw.val_move rfl)) rfl ?_
  refine Fw.hAll2 4 6 (by kernel_rfl) ?_ ?_
  refine Fw.hOp 4 rfl ?_
  refine Fw.ld sc2 rfl (HA.cell 9) rfl ?_
  refine Fw.hNext HS ?_
  refine Fw.hAll1 6 (by kernel_rfl) ?_
  refine Fw.hOp 6 rfl ?_
  refine Fw.call cf53 rfl rfl (clamp_any t _) ?_
  rintro e_ _ ⟨rfl, rfl⟩
  refine ⟨_, rfl, ?_⟩
  refine Fw.hNext HS ?_
  refine Fw.hAll1 7 (by kernel_rfl) ?_
  refine Fw.hOp 7 rfl ?_
  refine Fw.s (Fw.val_max rfl rfl ((Ag.now_if a t).trans hm.symm)) rfl ?_
  refine Fw.hNext HS ?_
  refine Fw.hTk 8 rfl rfl (Fw.yV (Fw.val_nil rfl)) rfl ?_
  refine Fw.hTk 9 rfl rfl (Fw.yV (Fw.val_fieldAddr fl89_9 rfl rfl)) rfl ?_
  refine Fw.hAll1 10 (by kernel_rfl) ?_
  refine Fw.hOp 10 rfl ?_
  refine Fw.store sz2 rfl rfl HA rfl rfl rfl ?_
  intro w2 N_ hc
  replace HF := HF.chg hc (by omega)
  replace HP := HP.chg hc (Fw.RdT.ne_ HP HA (by decide))
  replace HG := HG.kp ((Fw.Kp.refl [89] _).one hc HA rfl) rfl rfl rfl rfl
  replace HS := HS.trans hc (fun _ _ h => h)
  replace HC := HC.trans hc (fun k hk_ e => by first | exact e | (left; exact e) | (right; exact e) | (exfalso; omega))
  clear hc
  clear HA
  have HA := N_
  clear N_
  replace HA : Blk w2 p 89 #[.pointer (some ⟨pg, 0, none⟩), .pointer (some ⟨pf, 0, none⟩), .int .i64 u, .int .i64 a.s, .int .i64 (a.v : Int), .int .i64 a.i, .int .i64 (a.d : Int), .slice A a.p.length c, .int .i64 a.z, .int .i64 m, .int .i64 a.l.u, .int .i64 a.l.q, .int .i64 a.l.s, .int .i64 a.l.n, .int .i64 a.l.e, .int .i64 a.r] := HA
  refine Fw.hNext HS ?_
  refine Fw.hDone (by kernel_rfl) ?_
  refine hK1 _ _ (Fw.FC.sub (f' := [(0, _)]) (.cons rfl .nil) ?_)
  refine Fw.seq fun _ hK2 => ?_
  refine Fw.block ?_
  refine Fw.loop (fun m_ f_ W_ => ∃ (pp : List Nat) (vv : Nat) (zz : Int) (A_ : Option Addr) (c_ : Nat), m_ = pp.length ∧ Ag.drive E m pp vv zz = Ag.drive E m a.p a.v a.z ∧ Rg.Route E a.d vv pp ∧ vv < N ∧ (0 ≤ zz ∧ zz ≤ m) ∧ pp.length ≤ c_ ∧ Blk W_ p 89 #[.pointer (some ⟨pg, 0, none⟩), .pointer (some ⟨pf, 0, none⟩), .int .i64 u, .int .i64 a.s, .int .i64 (vv : Int), .int .i64 a.i, .int .i64 (a.d : Int), .slice A_ pp.length c_, .int .i64 zz, .int .i64 m, .int .i64 a.l.u, .int .i64 a.l.q, .int .i64 a.l.s, .int .i64 a.l.n, .int .i64 a.l.e, .int .i64 a.r] ∧ FenceAt W_ pf a.f ∧ Fw.RdT W_ 3 A_ (Rg.ints pp) ∧ Rg.GT W_ pg N E ∧ Chg (· = p) w W_ ∧ f_ = [(0, .pointer (some ⟨p, 0, none⟩))]) ⟨_, _, ⟨a.p, a.v, a.z, A, c, rfl, rfl, hg.rt, hg.v, ⟨by omega, by omega⟩, hpc, HA, HF, HP, HG, HC, rfl⟩, (.cons rfl .nil)⟩ ?_
  clear HA HF HP HG HC
  rintro m3_ _ w3 ⟨pp, vv, zz, A_, c_, hm3_, hdr, hrt, hvN, hzz, hpc, HA, HF, HP, HG, HC, rfl⟩
  refine Fw.seq fun _ hK4 => ?_
  refine Fw.seq fun _ hK5 => ?_
  refine Fw.region ?_
  refine Fw.s (Fw.val_move rfl) rfl ?_
  refine Fw.s (Fw.val_nil rfl) rfl ?_
  refine Fw.s (Fw.val_fieldAddr fl89_7 rfl rfl) rfl ?_
  refine Fw.ld sc47 rfl (HA.cell 7) rfl ?_
  refine Fw.s (Fw.val_len Try.underlying47 rfl) rfl ?_
  refine Fw.s2 (Fw.val_bin rfl rfl Fw.b_gtr) rfl ?_ ?_
  rintro hlen
  refine Fw.nil ?_
  refine hK5 _ _ ?_
  refine Fw.condT rfl ?_
  refine Fw.skip ?_
  refine hK4 _ _ ?_
  refine Fw.block ?_
  refine Fw.seq fun _ hK7 => ?_
  obtain ⟨i, l, rfl⟩ : ∃ i l, pp = i :: l := by
    cases pp with
    | nil => simp at hlen
    | cons i l => exact ⟨i, l, rfl⟩
  obtain ⟨hvd, hil, hm1, hrl⟩ := hrt
  obtain ⟨ad, b_, o_, hA, hadd, HI⟩ := Fw.rdAtM (c := fun (j : Nat) => Value.int .i64 (j : Int)) (l := i :: l) HP.1 0 (by simp)
  replace HI : World.cell? w3 ⟨b_, o_, none⟩ = some (.int .i64 (i : Int)) := HI
  refine Fw.regionH (by kernel_rfl) ?_
  have R_HA := HA
  have R_HF := HF
  have R_HG := HG
  have R_HI := HI
  intro w4 hb
  have HS := hb
  replace HA := HA.low hb
  replace HF := HF.low hb
  replace HP := HP.low hb
  replace HG := HG.low hb
  replace HI := (hb.cell (World.block_lt_of_cell? _ _ HI)).trans HI
  replace HC := HC.trans (Chg.of_below hb (· = p)) (fun _ _ h => h)
  clear hb
  refine Fw.hTk 0 rfl rfl (Fw.yV (Fw.val_move rfl)) rfl ?_
  refine Fw.hTk 1 rfl rfl (Fw.yV (Fw.val_nil rfl)) rfl ?_
  refine Fw.hTk 2 rfl rfl (Fw.yV (Fw.val_fieldAddr fl89_0 rfl rfl)) rfl ?_
  refine Fw.hTk 3 rfl rfl (Fw.yV (Fw.hLd sc24 rfl (R_HA.cell 0))) rfl ?_
  refine Fw.hTk 4 rfl rfl (Fw.yV (Fw.val_move rfl)) rfl ?_
  refine Fw.hTk 5 rfl rfl (Fw.yV (Fw.val_nil rfl)) rfl ?_
  refine Fw.hTk 6 rfl rfl (Fw.yV (Fw.val_fieldAddr fl89_7 rfl rfl)) rfl ?_
  refine Fw.hTk 7 rfl rfl (Fw.yV (Fw.hLd sc47 rfl (R_HA.cell 7))) rfl ?_
  refine Fw.hTk 8 rfl rfl (Fw.yV (Fw.val_indexR Try.underlying47 sz3 rfl hA rfl (show (0 : Int) = ((0 : Nat) : Int) from rfl) (by simp) hadd)) rfl ?_
  refine Fw.hTk 9 rfl rfl (Fw.yV (Fw.hLd sc3 rfl (R_HI))) rfl ?_
  refine Fw.hAll2 10 14 (by kernel_rfl) ?_ ?_
  refine Fw.hOp 10 rfl ?_
  refine Fw.call cf54 rfl rfl (edge_any _ pg N E HG.at_ i hil) ?_
  rintro e_ w5 ⟨rfl, hb⟩
  refine ⟨_, rfl, ?_⟩
  replace HA := HA.low hb
  replace HF := HF.low hb
  replace HP := HP.low hb
  replace HG := HG.low hb
  replace HI := (hb.cell (World.block_lt_of_cell? _ _ HI)).trans HI
  replace HS := HS.trans (hb.mono HS.size)
  replace HC := HC.trans (Chg.of_below hb (· = p)) (fun _ _ h => h)
  clear hb
  refine Fw.hNext HS ?_
  refine Fw.hTk 11 rfl rfl (Fw.yV (Fw.val_move rfl)) rfl ?_
  refine Fw.hTk 12 rfl rfl (Fw.yV (Fw.val_extract rfl rfl)) rfl ?_
  refine Fw.hTk 13 rfl rfl (Fw.yV (Fw.val_extract rfl rfl)) rfl ?_
  refine Fw.hAll1 14 (by kernel_rfl) ?_
  refine Fw.hOp 14 rfl ?_
  refine Fw.alloc ze29 rfl ?_
  intro w6 ge ege He hb
  have rge : w3.heap.size ≤ ge := by have := HS.size; omega
  have n_p_ge : p < ge := by have := HA.lt; omega
  have n_pf_ge : pf < ge := by have := HF.lt; omega
  have lge : w.heap.size ≤ ge := by have := HC.size; omega
  replace HA := HA.low hb
  replace HF := HF.low hb
  replace HP := HP.low hb
  replace HG := HG.low hb
  replace HI := (hb.cell (World.block_lt_of_cell? _ _ HI)).trans HI
  replace HS := HS.trans (hb.mono HS.size)
  replace HC := HC.trans (Chg.of_below hb (· = p)) (fun _ _ h => h)
  clear hb
  clear ege
  refine Fw.hNext HS ?_
  refine Fw.hAll1 15 (by kernel_rfl) ?_
  refine Fw.hOp 15 rfl ?_
  refine Fw.storeW sz29 rfl rfl He rfl rfl (by exact Fw.oneCells rfl) ?_
  intro w7 N_ hc
  replace HA := HA.chg hc (by omega)
  replace HF := HF.chg hc (by omega)
  replace HP := HP.chg hc (Fw.RdT.ne_ HP He (by decide))
  replace HG := R_HG.low (HS.trans (hc.below (B := w3.heap.size) (fun k e => by omega) HS.size))
  replace HI := cell_chg HI hc (by have h_ := World.block_lt_of_cell? _ _ R_HI; have h_ : b_ < _ := h_; show ¬ b_ = ge; omega)
  replace HS := HS.trans (hc.below (B := w3.heap.size) (fun k e => by omega) HS.size)
  replace HC := HC.trans hc (fun k hk_ e => by first | exact e | (left; exact e) | (right; exact e) | (exfalso; omega))
  clear hc
  clear He
  have He := N_
  clear N_
  replace He : Blk w7 ge 29 #[.int .i64 (E[i].f : Int), .int .i64 (E[i].t : Int), .int .i64 E[i].m] := He
  refine Fw.hNext HS ?_
  refine Fw.hTk 16 rfl rfl (Fw.yV (Fw.val_assign rfl)) rfl ?_
  refine Fw.hDone (by kernel_rfl) ?_
  refine hK7 _ _ (Fw.FC.sub (f' := [(5, _), (4, _), (0, _)]) (.cons rfl (.cons rfl (.cons rfl .nil))) ?_)
  refine Fw.seq fun _ hK9 => ?_
  refine Fw.seq fun _ hK10 => ?_
  clear HI
  refine Fw.regionQ (by kernel_rfl) (by kernel_rfl) ?_
  refine Fw.q (Fw.val_move rfl) rfl ?_
  refine Fw.q (Fw.val_not rfl) rfl ?_
  refine Fw.q (Fw.val_move rfl) rfl ?_
  refine Fw.gTQ (d := 38) rfl rfl ?_
  refine Fw.q (Fw.val_move rfl) rfl ?_
  refine Fw.gTQ (d := 38) rfl rfl ?_
  refine Fw.q (Fw.val_nil rfl) rfl ?_
  refine Fw.gTQ (d := 38) rfl rfl ?_
  refine Fw.q (Fw.val_fieldAddr fl89_9 rfl rfl) rfl ?_
  refine Fw.gTQ (d := 38) rfl rfl ?_
  refine Fw.ldQ sc2 rfl (HA.cell 9) rfl ?_
  refine Fw.gTQ (d := 38) rfl rfl ?_
  refine Fw.q (Fw.val_move rfl) rfl ?_
  refine Fw.gTQ (d := 38) rfl rfl ?_
  refine Fw.q (Fw.val_nil rfl) rfl ?_
  refine Fw.gTQ (d := 38) rfl rfl ?_
  refine Fw.q (Fw.val_fieldAddr fl89_8 rfl rfl) rfl ?_
  refine Fw.gTQ (d := 38) rfl rfl ?_
  refine Fw.ldQ sc2 rfl (HA.cell 8) rfl ?_
  refine Fw.gTQ (d := 38) rfl rfl ?_
  refine Fw.q (Fw.val_bin rfl rfl (Fw.b_sub (Fw.i64_ok (by omega)))) rfl ?_
  refine Fw.gTQ (d := 38) rfl rfl ?_
  refine Fw.q (Fw.val_fieldAddr fl29_2 rfl rfl) rfl ?_
  refine Fw.gTQ (d := 38) rfl rfl ?_
  refine Fw.ldQ sc2 rfl (He.cell 2) rfl ?_
  refine Fw.gTQ (d := 38) rfl rfl ?_
  refine Fw.q2 (Fw.val_bin rfl rfl Fw.b_lss) rfl ?_ ?_
  rintro hlt
  refine Fw.q (Fw.val_pickF rfl rfl) rfl ?_
  refine Fw.nilQ ?_
  intro w8 hb
  replace HA := HA.low hb
  replace HF := HF.low hb
  replace HP := HP.low hb
  replace HG := HG.low hb
  replace He := He.low hb
  replace HC := HC.trans (Chg.of_below hb (· = p)) (fun _ _ h => h)
  clear hb
  refine hK10 _ _ ?_
  refine Fw.condT rfl ?_
  refine Fw.exit ?_
  refine Fw.X_exit ?_
  refine Fw.X_blockO rfl ?_
  refine Fw.X_exit ?_
  refine Fw.X_block ?_
  refine hK2 _ _ (Fw.FC.sub (f' := [(0, _)]) (.cons rfl .nil) ?_)
  obtain ⟨pp, hpp⟩ : ∃ pp, pp = i :: l := ⟨_, rfl⟩
  have hq : Ag.drive E m pp vv zz = (pp, vv, zz) := by rw [hpp]; exact Ag.drive_stop hil hlt
  rw [← hpp] at hdr HA HP hpc
  have hmv : Ag.moved E a m = { a with n := m, p := pp, v := vv, z := zz } := Ag.moved_eq hdr hq
  refine Fw.region ?_
  refine Fw.s (Fw.val_move rfl) rfl ?_
  refine Fw.call cf47 rfl rfl (arrive_any _ p pf pg N E u { a with n := m, p := pp, v := vv, z := zz } ⟨A_, c_, HA, HP, hpc, HF, HG⟩) ?_
  rintro e_ w9 ⟨rfl, H2, hc⟩
  refine ⟨_, rfl, ?_⟩
  replace He := He.chg hc (by omega)
  replace HC := HC.trans hc (fun k hk_ e => by first | exact e | (left; exact e) | (right; exact e) | (exfalso; omega))
  clear hc
  clear HA HP HF HG
  refine Fw.nil ?_
  refine Fw.end_ [] [] Try.results31 .nil ?_
  have ep : Ag.pass E a t = Ag.arrive { a with n := m, p := pp, v := vv, z := zz } := by rw [← hmv, hm]; rfl
  rw [ep]
  exact ⟨rfl, H2, HC⟩
  rintro hlt
  refine Fw.q (Fw.val_pickF rfl rfl) rfl ?_
  refine Fw.nilQ ?_
  intro w10 hb
  replace HA := HA.low hb
  replace HF := HF.low hb
  replace HP := HP.low hb
  replace HG := HG.low hb
  replace He := He.low hb
  replace HC := HC.trans (Chg.of_below hb (· = p)) (fun _ _ h => h)
  clear hb
  refine hK10 _ _ ?_
  refine Fw.condF rfl ?_
  refine Fw.skip ?_
  refine hK9 _ _ ?_
  refine Fw.seq fun _ hK12 => ?_
  refine Fw.region ?_
  refine Fw.s (Fw.val_move rfl) rfl ?_
  refine Fw.s (Fw.val_fieldAddr fl29_1 rfl rfl) rfl ?_
  refine Fw.ld sc3 rfl (He.cell 1) rfl ?_
  refine Fw.s (Fw.val_nil rfl) rfl ?_
  refine Fw.s (Fw.val_fieldAddr fl89_4 rfl rfl) rfl ?_
  refine Fw.store sz3 rfl rfl HA rfl rfl rfl ?_
  intro w11 N_ hc
  replace HF := HF.chg hc (by omega)
  replace HP := HP.chg hc (Fw.RdT.ne_ HP HA (by decide))
  replace HG := HG.kp ((Fw.Kp.refl [89] _).one hc HA rfl) rfl rfl rfl rfl
  replace He := He.chg hc (by omega)
  replace HC := HC.trans hc (fun k hk_ e => by first | exact e | (left; exact e) | (right; exact e) | (exfalso; omega))
  clear hc
  clear HA
  have HA := N_
  clear N_
  replace HA : Blk w11 p 89 #[.pointer (some ⟨pg, 0, none⟩), .pointer (some ⟨pf, 0, none⟩), .int .i64 u, .int .i64 a.s, .int .i64 (E[i].t : Int), .int .i64 a.i, .int .i64 (a.d : Int), .slice A_ (i :: l).length c_, .int .i64 zz, .int .i64 m, .int .i64 a.l.u, .int .i64 a.l.q, .int .i64 a.l.s, .int .i64 a.l.n, .int .i64 a.l.e, .int .i64 a.r] := HA
  refine Fw.nil ?_
  refine hK12 _ _ (Fw.FC.sub (f' := [(50, _), (49, _), (48, _), (47, _), (46, _), (45, _), (44, _), (43, _), (42, _), (41, _), (40, _), (39, _), (4, _), (0, _)]) (.cons rfl (.cons rfl (.cons rfl (.cons rfl (.cons rfl (.cons rfl (.cons rfl (.cons rfl (.cons rfl (.cons rfl (.cons rfl (.cons rfl (.cons rfl (.cons rfl .nil)))))))))))))) ?_)
  refine Fw.seq fun _ hK13 => ?_
  refine Fw.regionHS (Chg (· = p) w11) (by kernel_rfl) (Chg.of_below (Fw.drew_low w11) _) ?_
  have R_HA := HA
  have R_HF := HF
  have R_HG := HG
  have R_He := He
  intro w12 hb HS
  replace HA := HA.low hb
  replace HF := HF.low hb
  replace HP := HP.low hb
  replace HG := HG.low hb
  replace He := He.low hb
  replace HC := HC.trans (Chg.of_below hb (· = p)) (fun _ _ h => h)
  clear hb
  refine Fw.hTk 0 rfl rfl (Fw.yV (Fw.val_move rfl)) rfl ?_
  refine Fw.hTk 1 rfl rfl (Fw.yV (Fw.val_nil rfl)) rfl ?_
  refine Fw.hTk 2 rfl rfl (Fw.yV (Fw.val_fieldAddr fl89_8 rfl rfl)) rfl ?_
  refine Fw.hTk 4 rfl rfl (Fw.yV (Fw.val_fieldAddr fl29_2 rfl rfl)) rfl ?_
  refine Fw.hTk 5 rfl rfl (Fw.yV (Fw.hLdC sc2 rfl (R_He.cell 2) (by show ¬ ge = p; omega))) rfl ?_
  refine Fw.hAll1 3 (by kernel_rfl) ?_
  refine Fw.hOp 3 rfl ?_
  refine Fw.ld sc2 rfl (HA.cell 8) rfl ?_
  refine Fw.hNext HS ?_
  refine Fw.hTk 6 rfl rfl (Fw.yV (Fw.val_bin rfl rfl (Fw.b_add (Fw.i64_ok (by omega))))) rfl ?_
  refine Fw.hTk 7 rfl rfl (Fw.yV (Fw.val_nil rfl)) rfl ?_
  refine Fw.hTk 8 rfl rfl (Fw.yV (Fw.val_fieldAddr fl89_8 rfl rfl)) rfl ?_
  refine Fw.hAll1 9 (by kernel_rfl) ?_
  refine Fw.hOp 9 rfl ?_
  refine Fw.store sz2 rfl rfl HA rfl rfl rfl ?_
  intro w13 N_ hc
  replace HF := HF.chg hc (by omega)
  replace HP := HP.chg hc (Fw.RdT.ne_ HP HA (by decide))
  replace HG := HG.kp ((Fw.Kp.refl [89] _).one hc HA rfl) rfl rfl rfl rfl
  replace He := He.chg hc (by omega)
  replace HS := HS.trans hc (fun _ _ h => h)
  replace HC := HC.trans hc (fun k hk_ e => by first | exact e | (left; exact e) | (right; exact e) | (exfalso; omega))
  clear hc
  clear HA
  have HA := N_
  clear N_
  replace HA : Blk w13 p 89 #[.pointer (some ⟨pg, 0, none⟩), .pointer (some ⟨pf, 0, none⟩), .int .i64 u, .int .i64 a.s, .int .i64 (E[i].t : Int), .int .i64 a.i, .int .i64 (a.d : Int), .slice A_ (i :: l).length c_, .int .i64 (zz + E[i].m), .int .i64 m, .int .i64 a.l.u, .int .i64 a.l.q, .int .i64 a.l.s, .int .i64 a.l.n, .int .i64 a.l.e, .int .i64 a.r] := HA
  refine Fw.hNext HS ?_
  refine Fw.hDone (by kernel_rfl) ?_
  refine hK13 _ _ (Fw.FC.sub (f' := [(50, _), (49, _), (48, _), (47, _), (46, _), (45, _), (44, _), (43, _), (42, _), (41, _), (40, _), (39, _), (0, _)]) (.cons rfl (.cons rfl (.cons rfl (.cons rfl (.cons rfl (.cons rfl (.cons rfl (.cons rfl (.cons rfl (.cons rfl (.cons rfl (.cons rfl (.cons rfl .nil))))))))))))) ?_)
  refine Fw.region ?_
  refine Fw.s (Fw.val_move rfl) rfl ?_
  refine Fw.s (Fw.val_move rfl) rfl ?_
  refine Fw.s (Fw.val_nil rfl) rfl ?_
  refine Fw.s (Fw.val_fieldAddr fl89_7 rfl rfl) rfl ?_
  refine Fw.ld sc47 rfl (HA.cell 7) rfl ?_
  refine Fw.s (Fw.val_sliceFrom Try.underlying47 sz3 rfl rfl (show (1 : Int) = ((1 : Nat) : Int) from rfl) (by simp)) rfl ?_
  refine Fw.s (Fw.val_nil rfl) rfl ?_
  refine Fw.s (Fw.val_fieldAddr fl89_7 rfl rfl) rfl ?_
  refine Fw.store sz47 rfl rfl HA rfl rfl rfl ?_
  intro w14 N_ hc
  replace HF := HF.chg hc (by omega)
  replace HP := HP.chg hc (Fw.RdT.ne_ HP HA (by decide))
  replace HG := HG.kp ((Fw.Kp.refl [89] _).one hc HA rfl) rfl rfl rfl rfl
  replace He := He.chg hc (by omega)
  replace HC := HC.trans hc (fun k hk_ e => by first | exact e | (left; exact e) | (right; exact e) | (exfalso; omega))
  clear hc
  clear HA
  have HA := N_
  clear N_
  replace HA : Blk w14 p 89 #[.pointer (some ⟨pg, 0, none⟩), .pointer (some ⟨pf, 0, none⟩), .int .i64 u, .int .i64 a.s, .int .i64 (E[i].t : Int), .int .i64 a.i, .int .i64 (a.d : Int), .slice (cutA A_ c_ 1 1) l.length (c_ - 1), .int .i64 (zz + E[i].m), .int .i64 m, .int .i64 a.l.u, .int .i64 a.l.q, .int .i64 a.l.s, .int .i64 a.l.n, .int .i64 a.l.e, .int .i64 a.r] := HA
  refine Fw.nil ?_
  refine Fw.X_blockN ?_
  replace HP := HP.cut (by simpa using hpc)
  refine Fw.roundEnd _ _ (by have q_ : (i :: l).length = l.length + 1 := rfl; omega) ⟨l, E[i].t, (zz + E[i].m), (cutA A_ c_ 1 1), (c_ - 1), rfl, by rw [← hdr, Ag.drive_go hil hlt], hrl, (hg.net.ok _ (List.getElem_mem hil)).2, ⟨by omega, by omega⟩, by simp only [List.length_cons] at hpc; omega, HA, HF, HP, HG, HC, rfl⟩ (.cons rfl .nil)
  refine Fw.hOp 14 rfl ?_
  refine Fw.alloc ze29 rfl ?_
  intro w15 ge ege He hb
  have rge : w3.heap.size ≤ ge := by have := HS.size; omega
  have n_p_ge : p < ge := by have := HA.lt; omega
  have n_pf_ge : pf < ge := by have := HF.lt; omega
  have lge : w.heap.size ≤ ge := by have := HC.size; omega
  replace HA := HA.low hb
  replace HF := HF.low hb
  replace HP := HP.low hb
  replace HG := HG.low hb
  replace HI := (hb.cell (World.block_lt_of_cell? _ _ HI)).trans HI
  replace HS := HS.trans (hb.mono HS.size)
  replace HC := HC.trans (Chg.of_below hb (· = p)) (fun _ _ h => h)
  clear hb
  clear ege
  refine Fw.hNext HS ?_
  refine Fw.hAll1 10 (by kernel_rfl) ?_
  refine Fw.hOp 10 rfl ?_
  refine Fw.call cf54 rfl rfl (edge_any _ pg N E HG.at_ i hil) ?_
  rintro e_ w16 ⟨rfl, hb⟩
  refine ⟨_, rfl, ?_⟩
  replace HA := HA.low hb
  replace HF := HF.low hb
  replace HP := HP.low hb
  replace HG := HG.low hb
  replace HI := (hb.cell (World.block_lt_of_cell? _ _ HI)).trans HI
  replace HS := HS.trans (hb.mono HS.size)
  replace He := He.low hb
  replace HC := HC.trans (Chg.of_below hb (· = p)) (fun _ _ h => h)
  clear hb
  refine Fw.hNext HS ?_
  refine Fw.hTk 11 rfl rfl (Fw.yV (Fw.val_move rfl)) rfl ?_
  refine Fw.hTk 12 rfl rfl (Fw.yV (Fw.val_extract rfl rfl)) rfl ?_
  refine Fw.hTk 13 rfl rfl (Fw.yV (Fw.val_extract rfl rfl)) rfl ?_
  refine Fw.hAll1 15 (by kernel_rfl) ?_
  refine Fw.hOp 15 rfl ?_
  refine Fw.storeW sz29 rfl rfl He rfl rfl (by exact Fw.oneCells rfl) ?_
  intro w17 N_ hc
  replace HA := HA.chg hc (by omega)
  replace HF := HF.chg hc (by omega)
  replace HP := HP.chg hc (Fw.RdT.ne_ HP He (by decide))
  replace HG := R_HG.low (HS.trans (hc.below (B := w3.heap.size) (fun k e => by omega) HS.size))
  replace HI := cell_chg HI hc (by have h_ := World.block_lt_of_cell? _ _ R_HI; have h_ : b_ < _ := h_; show ¬ b_ = ge; omega)
  replace HS := HS.trans (hc.below (B := w3.heap.size) (fun k e => by omega) HS.size)
  replace HC := HC.trans hc (fun k hk_ e => by first | exact e | (left; exact e) | (right; exact e) | (exfalso; omega))
  clear hc
  clear He
  have He := N_
  clear N_
  replace He : Blk w17 ge 29 #[.int .i64 (E[i].f : Int), .int .i64 (E[i].t : Int), .int .i64 E[i].m] := He
  refine Fw.hNext HS ?_
  refine Fw.hTk 16 rfl rfl (Fw.yV (Fw.val_assign rfl)) rfl ?_
  refine Fw.hDone (by kernel_rfl) ?_
  refine hK7 _ _ (Fw.FC.sub (f' := [(5, _), (4, _), (0, _)]) (.cons rfl (.cons rfl (.cons rfl .nil))) ?_)
  refine Fw.seq fun _ hK14 => ?_
  refine Fw.seq fun _ hK15 => ?_
  clear HI
  refine Fw.regionQ (by kernel_rfl) (by kernel_rfl) ?_
  refine Fw.q (Fw.val_move rfl) rfl ?_
  refine Fw.q (Fw.val_not rfl) rfl ?_
  refine Fw.q (Fw.val_move rfl) rfl ?_
  refine Fw.gTQ (d := 38) rfl rfl ?_
  refine Fw.q (Fw.val_move rfl) rfl ?_
  refine Fw.gTQ (d := 38) rfl rfl ?_
  refine Fw.q (Fw.val_nil rfl) rfl ?_
  refine Fw.gTQ (d := 38) rfl rfl ?_
  refine Fw.q (Fw.val_fieldAddr fl89_9 rfl rfl) rfl ?_
  refine Fw.gTQ (d := 38) rfl rfl ?_
  refine Fw.ldQ sc2 rfl (HA.cell 9) rfl ?_
  refine Fw.gTQ (d := 38) rfl rfl ?_
  refine Fw.q (Fw.val_move rfl) rfl ?_
  refine Fw.gTQ (d := 38) rfl rfl ?_
  refine Fw.q (Fw.val_nil rfl) rfl ?_
  refine Fw.gTQ (d := 38) rfl rfl ?_
  refine Fw.q (Fw.val_fieldAddr fl89_8 rfl rfl) rfl ?_
  refine Fw.gTQ (d := 38) rfl rfl ?_
  refine Fw.ldQ sc2 rfl (HA.cell 8) rfl ?_
  refine Fw.gTQ (d := 38) rfl rfl ?_
  refine Fw.q (Fw.val_bin rfl rfl (Fw.b_sub (Fw.i64_ok (by omega)))) rfl ?_
  refine Fw.gTQ (d := 38) rfl rfl ?_
  refine Fw.q (Fw.val_fieldAddr fl29_2 rfl rfl) rfl ?_
  refine Fw.gTQ (d := 38) rfl rfl ?_
  refine Fw.ldQ sc2 rfl (He.cell 2) rfl ?_
  refine Fw.gTQ (d := 38) rfl rfl ?_
  refine Fw.q2 (Fw.val_bin rfl rfl Fw.b_lss) rfl ?_ ?_
  rintro hlt
  refine Fw.q (Fw.val_pickF rfl rfl) rfl ?_
  refine Fw.nilQ ?_
  intro w18 hb
  replace HA := HA.low hb
  replace HF := HF.low hb
  replace HP := HP.low hb
  replace HG := HG.low hb
  replace He := He.low hb
  replace HC := HC.trans (Chg.of_below hb (· = p)) (fun _ _ h => h)
  clear hb
  refine hK15 _ _ ?_
  refine Fw.condT rfl ?_
  refine Fw.exit ?_
  refine Fw.X_exit ?_
  refine Fw.X_blockO rfl ?_
  refine Fw.X_exit ?_
  refine Fw.X_block ?_
  refine hK2 _ _ (Fw.FC.sub (f' := [(0, _)]) (.cons rfl .nil) ?_)
  obtain ⟨pp, hpp⟩ : ∃ pp, pp = i :: l := ⟨_, rfl⟩
  have hq : Ag.drive E m pp vv zz = (pp, vv, zz) := by rw [hpp]; exact Ag.drive_stop hil hlt
  rw [← hpp] at hdr HA HP hpc
  have hmv : Ag.moved E a m = { a with n := m, p := pp, v := vv, z := zz } := Ag.moved_eq hdr hq
  refine Fw.region ?_
  refine Fw.s (Fw.val_move rfl) rfl ?_
  refine Fw.call cf47 rfl rfl (arrive_any _ p pf pg N E u { a with n := m, p := pp, v := vv, z := zz } ⟨A_, c_, HA, HP, hpc, HF, HG⟩) ?_
  rintro e_ w19 ⟨rfl, H2, hc⟩
  refine ⟨_, rfl, ?_⟩
  replace He := He.chg hc (by omega)
  replace HC := HC.trans hc (fun k hk_ e => by first | exact e | (left; exact e) | (right; exact e) | (exfalso; omega))
  clear hc
  clear HA HP HF HG
  refine Fw.nil ?_
  refine Fw.end_ [] [] Try.results31 .nil ?_
  have ep : Ag.pass E a t = Ag.arrive { a with n := m, p := pp, v := vv, z := zz } := by rw [← hmv, hm]; rfl
  rw [ep]
  exact ⟨rfl, H2, HC⟩
  rintro hlt
  refine Fw.q (Fw.val_pickF rfl rfl) rfl ?_
  refine Fw.nilQ ?_
  intro w20 hb
  replace HA := HA.low hb
  replace HF := HF.low hb
  replace HP := HP.low hb
  replace HG := HG.low hb
  replace He := He.low hb
  replace HC := HC.trans (Chg.of_below hb (· = p)) (fun _ _ h => h)
  clear hb
  refine hK15 _ _ ?_
  refine Fw.condF rfl ?_
  refine Fw.skip ?_
  refine hK14 _ _ ?_
  refine Fw.seq fun _ hK17 => ?_
  refine Fw.region ?_
  refine Fw.s (Fw.val_move rfl) rfl ?_
  refine Fw.s (Fw.val_fieldAddr fl29_1 rfl rfl) rfl ?_
  refine Fw.ld sc3 rfl (He.cell 1) rfl ?_
  refine Fw.s (Fw.val_nil rfl) rfl ?_
  refine Fw.s (Fw.val_fieldAddr fl89_4 rfl rfl) rfl ?_
  refine Fw.store sz3 rfl rfl HA rfl rfl rfl ?_
  intro w21 N_ hc
  replace HF := HF.chg hc (by omega)
  replace HP := HP.chg hc (Fw.RdT.ne_ HP HA (by decide))
  replace HG := HG.kp ((Fw.Kp.refl [89] _).one hc HA rfl) rfl rfl rfl rfl
  replace He := He.chg hc (by omega)
  replace HC := HC.trans hc (fun k hk_ e => by first | exact e | (left; exact e) | (right; exact e) | (exfalso; omega))
  clear hc
  clear HA
  have HA := N_
  clear N_
  replace HA : Blk w21 p 89 #[.pointer (some ⟨pg, 0, none⟩), .pointer (some ⟨pf, 0, none⟩), .int .i64 u, .int .i64 a.s, .int .i64 (E[i].t : Int), .int .i64 a.i, .int .i64 (a.d : Int), .slice A_ (i :: l).length c_, .int .i64 zz, .int .i64 m, .int .i64 a.l.u, .int .i64 a.l.q, .int .i64 a.l.s, .int .i64 a.l.n, .int .i64 a.l.e, .int .i64 a.r] := HA
  refine Fw.nil ?_
  refine hK17 _ _ (Fw.FC.sub (f' := [(50, _), (49, _), (48, _), (47, _), (46, _), (45, _), (44, _), (43, _), (42, _), (41, _), (40, _), (39, _), (4, _), (0, _)]) (.cons rfl (.cons rfl (.cons rfl (.cons rfl (.cons rfl (.cons rfl (.cons rfl (.cons rfl (.cons rfl (.cons rfl (.cons rfl (.cons rfl (.cons rfl (.cons rfl .nil)))))))))))))) ?_)
  refine Fw.seq fun _ hK18 => ?_
  refine Fw.regionHS (Chg (· = p) w21) (by kernel_rfl) (Chg.of_below (Fw.drew_low w21) _) ?_
  have R_HA := HA
  have R_HF := HF
  have R_HG := HG
  have R_He := He
  intro w22 hb HS
  replace HA := HA.low hb
  replace HF := HF.low hb
  replace HP := HP.low hb
  replace HG := HG.low hb
  replace He := He.low hb
  replace HC := HC.trans (Chg.of_below hb (· = p)) (fun _ _ h => h)
  clear hb
  refine Fw.hTk 0 rfl rfl (Fw.yV (Fw.val_move rfl)) rfl ?_
  refine Fw.hTk 1 rfl rfl (Fw.yV (Fw.val_nil rfl)) rfl ?_
  refine Fw.hTk 2 rfl rfl (Fw.yV (Fw.val_fieldAddr fl89_8 rfl rfl)) rfl ?_
  refine Fw.hTk 4 rfl rfl (Fw.yV (Fw.val_fieldAddr fl29_2 rfl rfl)) rfl ?_
  refine Fw.hTk 5 rfl rfl (Fw.yV (Fw.hLdC sc2 rfl (R_He.cell 2) (by show ¬ ge = p; omega))) rfl ?_
  refine Fw.hAll1 3 (by kernel_rfl) ?_
  refine Fw.hOp 3 rfl ?_
  refine Fw.ld sc2 rfl (HA.cell 8) rfl ?_
  refine Fw.hNext HS ?_
  refine Fw.hTk 6 rfl rfl (Fw.yV (Fw.val_bin rfl rfl (Fw.b_add (Fw.i64_ok (by omega))))) rfl ?_
  refine Fw.hTk 7 rfl rfl (Fw.yV (Fw.val_nil rfl)) rfl ?_
  refine Fw.hTk 8 rfl rfl (Fw.yV (Fw.val_fieldAddr fl89_8 rfl rfl)) rfl ?_
  refine Fw.hAll1 9 (by kernel_rfl) ?_
  refine Fw.hOp 9 rfl ?_
  refine Fw.store sz2 rfl rfl HA rfl rfl rfl ?_
  intro w23 N_ hc
  replace HF := HF.chg hc (by omega)
  replace HP := HP.chg hc (Fw.RdT.ne_ HP HA (by decide))
  replace HG := HG.kp ((Fw.Kp.refl [89] _).one hc HA rfl) rfl rfl rfl rfl
  replace He := He.chg hc (by omega)
  replace HS := HS.trans hc (fun _ _ h => h)
  replace HC := HC.trans hc (fun k hk_ e => by first | exact e | (left; exact e) | (right; exact e) | (exfalso; omega))
  clear hc
  clear HA
  have HA := N_
  clear N_
  replace HA : Blk w23 p 89 #[.pointer (some ⟨pg, 0, none⟩), .pointer (some ⟨pf, 0, none⟩), .int .i64 u, .int .i64 a.s, .int .i64 (E[i].t : Int), .int .i64 a.i, .int .i64 (a.d : Int), .slice A_ (i :: l).length c_, .int .i64 (zz + E[i].m), .int .i64 m, .int .i64 a.l.u, .int .i64 a.l.q, .int .i64 a.l.s, .int .i64 a.l.n, .int .i64 a.l.e, .int .i64 a.r] := HA
  refine Fw.hNext HS ?_
  refine Fw.hDone (by kernel_rfl) ?_
  refine hK18 _ _ (Fw.FC.sub (f' := [(50, _), (49, _), (48, _), (47, _), (46, _), (45, _), (44, _), (43, _), (42, _), (41, _), (40, _), (39, _), (0, _)]) (.cons rfl (.cons rfl (.cons rfl (.cons rfl (.cons rfl (.cons rfl (.cons rfl (.cons rfl (.cons rfl (.cons rfl (.cons rfl (.cons rfl (.cons rfl .nil))))))))))))) ?_)
  refine Fw.region ?_
  refine Fw.s (Fw.val_move rfl) rfl ?_
  refine Fw.s (Fw.val_move rfl) rfl ?_
  refine Fw.s (Fw.val_nil rfl) rfl ?_
  refine Fw.s (Fw.val_fieldAddr fl89_7 rfl rfl) rfl ?_
  refine Fw.ld sc47 rfl (HA.cell 7) rfl ?_
  refine Fw.s (Fw.val_sliceFrom Try.underlying47 sz3 rfl rfl (show (1 : Int) = ((1 : Nat) : Int) from rfl) (by simp)) rfl ?_
  refine Fw.s (Fw.val_nil rfl) rfl ?_
  refine Fw.s (Fw.val_fieldAddr fl89_7 rfl rfl) rfl ?_
  refine Fw.store sz47 rfl rfl HA rfl rfl rfl ?_
  intro w24 N_ hc
  replace HF := HF.chg hc (by omega)
  replace HP := HP.chg hc (Fw.RdT.ne_ HP HA (by decide))
  replace HG := HG.kp ((Fw.Kp.refl [89] _).one hc HA rfl) rfl rfl rfl rfl
  replace He := He.chg hc (by omega)
  replace HC := HC.trans hc (fun k hk_ e => by first | exact e | (left; exact e) | (right; exact e) | (exfalso; omega))
  clear hc
  clear HA
  have HA := N_
  clear N_
  replace HA : Blk w24 p 89 #[.pointer (some ⟨pg, 0, none⟩), .pointer (some ⟨pf, 0, none⟩), .int .i64 u, .int .i64 a.s, .int .i64 (E[i].t : Int), .int .i64 a.i, .int .i64 (a.d : Int), .slice (cutA A_ c_ 1 1) l.length (c_ - 1), .int .i64 (zz + E[i].m), .int .i64 m, .int .i64 a.l.u, .int .i64 a.l.q, .int .i64 a.l.s, .int .i64 a.l.n, .int .i64 a.l.e, .int .i64 a.r] := HA
  refine Fw.nil ?_
  refine Fw.X_blockN ?_
  replace HP := HP.cut (by simpa using hpc)
  refine Fw.roundEnd _ _ (by have q_ : (i :: l).length = l.length + 1 := rfl; omega) ⟨l, E[i].t, (zz + E[i].m), (cutA A_ c_ 1 1), (c_ - 1), rfl, by rw [← hdr, Ag.drive_go hil hlt], hrl, (hg.net.ok _ (List.getElem_mem hil)).2, ⟨by omega, by omega⟩, by simp only [List.length_cons] at hpc; omega, HA, HF, HP, HG, HC, rfl⟩ (.cons rfl .nil)
  rintro hlen
  refine Fw.nil ?_
  refine hK5 _ _ ?_
  refine Fw.condF rfl ?_
  refine Fw.exit ?_
  refine Fw.X_exit ?_
  refine Fw.X_exit ?_
  refine Fw.X_block ?_
  refine hK2 _ _ ?_
  have hq : Ag.drive E m pp vv zz = (pp, vv, zz) := by
    cases pp with
    | nil => rfl
    | cons i l => simp at hlen
  have hmv : Ag.moved E a m = { a with n := m, p := pp, v := vv, z := zz } := Ag.moved_eq hdr hq
  refine Fw.region ?_
  refine Fw.s (Fw.val_move rfl) rfl ?_
  refine Fw.call cf47 rfl rfl (arrive_any _ p pf pg N E u { a with n := m, p := pp, v := vv, z := zz } ⟨A_, c_, HA, HP, hpc, HF, HG⟩) ?_
  rintro e_ w25 ⟨rfl, H2, hc⟩
  refine ⟨_, rfl, ?_⟩
  replace HC := HC.trans hc (fun k hk_ e => by first | exact e | (left; exact e) | (right; exact e) | (exfalso; omega))
  clear hc
  clear HA HP HF HG
  refine Fw.nil ?_
  refine Fw.end_ [] [] Try.results31 .nil ?_
  have ep : Ag.pass E a t = Ag.arrive { a with n := m, p := pp, v := vv, z := zz } := by rw [← hmv, hm]; rfl
  rw [ep]
  exact ⟨rfl, H2, HC⟩
  refine Fw.hOp 6 rfl ?_
  refine Fw.call cf53 rfl rfl (clamp_any t _) ?_
  rintro e_ _ ⟨rfl, rfl⟩
  refine ⟨_, rfl, ?_⟩
  refine Fw.hNext HS ?_
  refine Fw.hAll1 4 (by kernel_rfl) ?_
  refine Fw.hOp 4 rfl ?_
  refine Fw.ld sc2 rfl (HA.cell 9) rfl ?_
  refine Fw.hNext HS ?_
  refine Fw.hAll1 7 (by kernel_rfl) ?_
  refine Fw.hOp 7 rfl ?_
  refine Fw.s (Fw.val_max rfl rfl ((Ag.now_if a t).trans hm.symm)) rfl ?_
  refine Fw.hNext HS ?_
  refine Fw.hTk 8 rfl rfl (Fw.yV (Fw.val_nil rfl)) rfl ?_
  refine Fw.hTk 9 rfl rfl (Fw.yV (Fw.val_fieldAddr fl89_9 rfl rfl)) rfl ?_
  refine Fw.hAll1 10 (by kernel_rfl) ?_
  refine Fw.hOp 10 rfl ?_
  refine Fw.store sz2 rfl rfl HA rfl rfl rfl ?_
  intro w26 N_ hc
  replace HF := HF.chg hc (by omega)
  replace HP := HP.chg hc (Fw.RdT.ne_ HP HA (by decide))
  replace HG := HG.kp ((Fw.Kp.refl [89] _).one hc HA rfl) rfl rfl rfl rfl
  replace HS := HS.trans hc (fun _ _ h => h)
  replace HC := HC.trans hc (fun k hk_ e => by first | exact e | (left; exact e) | (right; exact e) | (exfalso; omega))
  clear hc
  clear HA
  have HA := N_
  clear N_
  replace HA : Blk w26 p 89 #[.pointer (some ⟨pg, 0, none⟩), .pointer (some ⟨pf, 0, none⟩), .int .i64 u, .int .i64 a.s, .int .i64 (a.v : Int), .int .i64 a.i, .int .i64 (a.d : Int), .slice A a.p.length c, .int .i64 a.z, .int .i64 m, .int .i64 a.l.u, .int .i64 a.l.q, .int .i64 a.l.s, .int .i64 a.l.n, .int .i64 a.l.e, .int .i64 a.r] := HA
  refine Fw.hNext HS ?_
  refine Fw.hDone (by kernel_rfl) ?_
  refine hK1 _ _ (Fw.FC.sub (f' := [(0, _)]) (.cons rfl .nil) ?_)
  refine Fw.seq fun _ hK19 => ?_
  refine Fw.block ?_
  refine Fw.loop (fun m_ f_ W_ => ∃ (pp : List Nat) (vv : Nat) (zz : Int) (A_ : Option Addr) (c_ : Nat), m_ = pp.length ∧ Ag.drive E m pp vv zz = Ag.drive E m a.p a.v a.z ∧ Rg.Route E a.d vv pp ∧ vv < N ∧ (0 ≤ zz ∧ zz ≤ m) ∧ pp.length ≤ c_ ∧ Blk W_ p 89 #[.pointer (some ⟨pg, 0, none⟩), .pointer (some ⟨pf, 0, none⟩), .int .i64 u, .int .i64 a.s, .int .i64 (vv : Int), .int .i64 a.i, .int .i64 (a.d : Int), .slice A_ pp.length c_, .int .i64 zz, .int .i64 m, .int .i64 a.l.u, .int .i64 a.l.q, .int .i64 a.l.s, .int .i64 a.l.n, .int .i64 a.l.e, .int .i64 a.r] ∧ FenceAt W_ pf a.f ∧ Fw.RdT W_ 3 A_ (Rg.ints pp) ∧ Rg.GT W_ pg N E ∧ Chg (· = p) w W_ ∧ f_ = [(0, .pointer (some ⟨p, 0, none⟩))]) ⟨_, _, ⟨a.p, a.v, a.z, A, c, rfl, rfl, hg.rt, hg.v, ⟨by omega, by omega⟩, hpc, HA, HF, HP, HG, HC, rfl⟩, (.cons rfl .nil)⟩ ?_
  clear HA HF HP HG HC
  rintro m20_ _ w27 ⟨pp, vv, zz, A_, c_, hm20_, hdr, hrt, hvN, hzz, hpc, HA, HF, HP, HG, HC, rfl⟩
  refine Fw.seq fun _ hK21 => ?_
  refine Fw.seq fun _ hK22 => ?_
  refine Fw.region ?_
  refine Fw.s (Fw.val_move rfl) rfl ?_
  refine Fw.s (Fw.val_nil rfl) rfl ?_
  refine Fw.s (Fw.val_fieldAddr fl89_7 rfl rfl) rfl ?_
  refine Fw.ld sc47 rfl (HA.cell 7) rfl ?_
  refine Fw.s (Fw.val_len Try.underlying47 rfl) rfl ?_
  refine Fw.s2 (Fw.val_bin rfl rfl Fw.b_gtr) rfl ?_ ?_
  rintro hlen
  refine Fw.nil ?_
  refine hK22 _ _ ?_
  refine Fw.condT rfl ?_
  refine Fw.skip ?_
  refine hK21 _ _ ?_
  refine Fw.block ?_
  refine Fw.seq fun _ hK24 => ?_
  obtain ⟨i, l, rfl⟩ : ∃ i l, pp = i :: l := by
    cases pp with
    | nil => simp at hlen
    | cons i l => exact ⟨i, l, rfl⟩
  obtain ⟨hvd, hil, hm1, hrl⟩ := hrt
  obtain ⟨ad, b_, o_, hA, hadd, HI⟩ := Fw.rdAtM (c := fun (j : Nat) => Value.int .i64 (j : Int)) (l := i :: l) HP.1 0 (by simp)
  replace HI : World.cell? w27 ⟨b_, o_, none⟩ = some (.int .i64 (i : Int)) := HI
  refine Fw.regionH (by kernel_rfl) ?_
  have R_HA := HA
  have R_HF := HF
  have R_HG := HG
  have R_HI := HI
  intro w28 hb
  have HS := hb
  replace HA := HA.low hb
  replace HF := HF.low hb
  replace HP := HP.low hb
  replace HG := HG.low hb
  replace HI := (hb.cell (World.block_lt_of_cell? _ _ HI)).trans HI
  replace HC := HC.trans (Chg.of_below hb (· = p)) (fun _ _ h => h)
  clear hb
  refine Fw.hTk 0 rfl rfl (Fw.yV (Fw.val_move rfl)) rfl ?_
  refine Fw.hTk 1 rfl rfl (Fw.yV (Fw.val_nil rfl)) rfl ?_
  refine Fw.hTk 2 rfl rfl (Fw.yV (Fw.val_fieldAddr fl89_0 rfl rfl)) rfl ?_
  refine Fw.hTk 3 rfl rfl (Fw.yV (Fw.hLd sc24 rfl (R_HA.cell 0))) rfl ?_
  refine Fw.hTk 4 rfl rfl (Fw.yV (Fw.val_move rfl)) rfl ?_
  refine Fw.hTk 5 rfl rfl (Fw.yV (Fw.val_nil rfl)) rfl ?_
  refine Fw.hTk 6 rfl rfl (Fw.yV (Fw.val_fieldAddr fl89_7 rfl rfl)) rfl ?_
  refine Fw.hTk 7 rfl rfl (Fw.yV (Fw.hLd sc47 rfl (R_HA.cell 7))) rfl ?_
  refine Fw.hTk 8 rfl rfl (Fw.yV (Fw.val_indexR Try.underlying47 sz3 rfl hA rfl (show (0 : Int) = ((0 : Nat) : Int) from rfl) (by simp) hadd)) rfl ?_
  refine Fw.hTk 9 rfl rfl (Fw.yV (Fw.hLd sc3 rfl (R_HI))) rfl ?_
  refine Fw.hAll2 10 14 (by kernel_rfl) ?_ ?_
  refine Fw.hOp 10 rfl ?_
  refine Fw.call cf54 rfl rfl (edge_any _ pg N E HG.at_ i hil) ?_
  rintro e_ w29 ⟨rfl, hb⟩
  refine ⟨_, rfl, ?_⟩
  replace HA := HA.low hb
  replace HF := HF.low hb
  replace HP := HP.low hb
  replace HG := HG.low hb
  replace HI := (hb.cell (World.block_lt_of_cell? _ _ HI)).trans HI
  replace HS := HS.trans (hb.mono HS.size)
  replace HC := HC.trans (Chg.of_below hb (· = p)) (fun _ _ h => h)
  clear hb
  refine Fw.hNext HS ?_
  refine Fw.hTk 11 rfl rfl (Fw.yV (Fw.val_move rfl)) rfl ?_
  refine Fw.hTk 12 rfl rfl (Fw.yV (Fw.val_extract rfl rfl)) rfl ?_
  refine Fw.hTk 13 rfl rfl (Fw.yV (Fw.val_extract rfl rfl)) rfl ?_
  refine Fw.hAll1 14 (by kernel_rfl) ?_
  refine Fw.hOp 14 rfl ?_
  refine Fw.alloc ze29 rfl ?_
  intro w30 ge ege He hb
  have rge : w27.heap.size ≤ ge := by have := HS.size; omega
  have n_p_ge : p < ge := by have := HA.lt; omega
  have n_pf_ge : pf < ge := by have := HF.lt; omega
  have lge : w.heap.size ≤ ge := by have := HC.size; omega
  replace HA := HA.low hb
  replace HF := HF.low hb
  replace HP := HP.low hb
  replace HG := HG.low hb
  replace HI := (hb.cell (World.block_lt_of_cell? _ _ HI)).trans HI
  replace HS := HS.trans (hb.mono HS.size)
  replace HC := HC.trans (Chg.of_below hb (· = p)) (fun _ _ h => h)
  clear hb
  clear ege
  refine Fw.hNext HS ?_
  refine Fw.hAll1 15 (by kernel_rfl) ?_
  refine Fw.hOp 15 rfl ?_
  refine Fw.storeW sz29 rfl rfl He rfl rfl (by exact Fw.oneCells rfl) ?_
  intro w31 N_ hc
  replace HA := HA.chg hc (by omega)
  replace HF := HF.chg hc (by omega)
  replace HP := HP.chg hc (Fw.RdT.ne_ HP He (by decide))
  replace HG := R_HG.low (HS.trans (hc.below (B := w27.heap.size) (fun k e => by omega) HS.size))
  replace HI := cell_chg HI hc (by have h_ := World.block_lt_of_cell? _ _ R_HI; have h_ : b_ < _ := h_; show ¬ b_ = ge; omega)
  replace HS := HS.trans (hc.below (B := w27.heap.size) (fun k e => by omega) HS.size)
  replace HC := HC.trans hc (fun k hk_ e => by first | exact e | (left; exact e) | (right; exact e) | (exfalso; omega))
  clear hc
  clear He
  have He := N_
  clear N_
  replace He : Blk w31 ge 29 #[.int .i64 (E[i].f : Int), .int .i64 (E[i].t : Int), .int .i64 E[i].m] := He
  refine Fw.hNext HS ?_
  refine Fw.hTk 16 rfl rfl (Fw.yV (Fw.val_assign rfl)) rfl ?_
  refine Fw.hDone (by kernel_rfl) ?_
  refine hK24 _ _ (Fw.FC.sub (f' := [(5, _), (4, _), (0, _)]) (.cons rfl (.cons rfl (.cons rfl .nil))) ?_)
  refine Fw.seq fun _ hK26 => ?_
  refine Fw.seq fun _ hK27 => ?_
  clear HI
  refine Fw.regionQ (by kernel_rfl) (by kernel_rfl) ?_
  refine Fw.q (Fw.val_move rfl) rfl ?_
  refine Fw.q (Fw.val_not rfl) rfl ?_
  refine Fw.q (Fw.val_move rfl) rfl ?_
  refine Fw.gTQ (d := 38) rfl rfl ?_
  refine Fw.q (Fw.val_move rfl) rfl ?_
  refine Fw.gTQ (d := 38) rfl rfl ?_
  refine Fw.q (Fw.val_nil rfl) rfl ?_
  refine Fw.gTQ (d := 38) rfl rfl ?_
  refine Fw.q (Fw.val_fieldAddr fl89_9 rfl rfl) rfl ?_
  refine Fw.gTQ (d := 38) rfl rfl ?_
  refine Fw.ldQ sc2 rfl (HA.cell 9) rfl ?_
  refine Fw.gTQ (d := 38) rfl rfl ?_
  refine Fw.q (Fw.val_move rfl) rfl ?_
  refine Fw.gTQ (d := 38) rfl rfl ?_
  refine Fw.q (Fw.val_nil rfl) rfl ?_
  refine Fw.gTQ (d := 38) rfl rfl ?_
  refine Fw.q (Fw.val_fieldAddr fl89_8 rfl rfl) rfl ?_
  refine Fw.gTQ (d := 38) rfl rfl ?_
  refine Fw.ldQ sc2 rfl (HA.cell 8) rfl ?_
  refine Fw.gTQ (d := 38) rfl rfl ?_
  refine Fw.q (Fw.val_bin rfl rfl (Fw.b_sub (Fw.i64_ok (by omega)))) rfl ?_
  refine Fw.gTQ (d := 38) rfl rfl ?_
  refine Fw.q (Fw.val_fieldAddr fl29_2 rfl rfl) rfl ?_
  refine Fw.gTQ (d := 38) rfl rfl ?_
  refine Fw.ldQ sc2 rfl (He.cell 2) rfl ?_
  refine Fw.gTQ (d := 38) rfl rfl ?_
  refine Fw.q2 (Fw.val_bin rfl rfl Fw.b_lss) rfl ?_ ?_
  rintro hlt
  refine Fw.q (Fw.val_pickF rfl rfl) rfl ?_
  refine Fw.nilQ ?_
  intro w32 hb
  replace HA := HA.low hb
  replace HF := HF.low hb
  replace HP := HP.low hb
  replace HG := HG.low hb
  replace He := He.low hb
  replace HC := HC.trans (Chg.of_below hb (· = p)) (fun _ _ h => h)
  clear hb
  refine hK27 _ _ ?_
  refine Fw.condT rfl ?_
  refine Fw.exit ?_
  refine Fw.X_exit ?_
  refine Fw.X_blockO rfl ?_
  refine Fw.X_exit ?_
  refine Fw.X_block ?_
  refine hK19 _ _ (Fw.FC.sub (f' := [(0, _)]) (.cons rfl .nil) ?_)
  obtain ⟨pp, hpp⟩ : ∃ pp, pp = i :: l := ⟨_, rfl⟩
  have hq : Ag.drive E m pp vv zz = (pp, vv, zz) := by rw [hpp]; exact Ag.drive_stop hil hlt
  rw [← hpp] at hdr HA HP hpc
  have hmv : Ag.moved E a m = { a with n := m, p := pp, v := vv, z := zz } := Ag.moved_eq hdr hq
  refine Fw.region ?_
  refine Fw.s (Fw.val_move rfl) rfl ?_
  refine Fw.call cf47 rfl rfl (arrive_any _ p pf pg N E u { a with n := m, p := pp, v := vv, z := zz } ⟨A_, c_, HA, HP, hpc, HF, HG⟩) ?_
  rintro e_ w33 ⟨rfl, H2, hc⟩
  refine ⟨_, rfl, ?_⟩
  replace He := He.chg hc (by omega)
  replace HC := HC.trans hc (fun k hk_ e => by first | exact e | (left; exact e) | (right; exact e) | (exfalso; omega))
  clear hc
  clear HA HP HF HG
  refine Fw.nil ?_
  refine Fw.end_ [] [] Try.results31 .nil ?_
  have ep : Ag.pass E a t = Ag.arrive { a with n := m, p := pp, v := vv, z := zz } := by rw [← hmv, hm]; rfl
  rw [ep]
  exact ⟨rfl, H2, HC⟩
  rintro hlt
  refine Fw.q (Fw.val_pickF rfl rfl) rfl ?_
  refine Fw.nilQ ?_
  intro w34 hb
  replace HA := HA.low hb
  replace HF := HF.low hb
  replace HP := HP.low hb
  replace HG := HG.low hb
  replace He := He.low hb
  replace HC := HC.trans (Chg.of_below hb (· = p)) (fun _ _ h => h)
  clear hb
  refine hK27 _ _ ?_
  refine Fw.condF rfl ?_
  refine Fw.skip ?_
  refine hK26 _ _ ?_
  refine Fw.seq fun _ hK29 => ?_
  refine Fw.region ?_
  refine Fw.s (Fw.val_move rfl) rfl ?_
  refine Fw.s (Fw.val_fieldAddr fl29_1 rfl rfl) rfl ?_
  refine Fw.ld sc3 rfl (He.cell 1) rfl ?_
  refine Fw.s (Fw.val_nil rfl) rfl ?_
  refine Fw.s (Fw.val_fieldAddr fl89_4 rfl rfl) rfl ?_
  refine Fw.store sz3 rfl rfl HA rfl rfl rfl ?_
  intro w35 N_ hc
  replace HF := HF.chg hc (by omega)
  replace HP := HP.chg hc (Fw.RdT.ne_ HP HA (by decide))
  replace HG := HG.kp ((Fw.Kp.refl [89] _).one hc HA rfl) rfl rfl rfl rfl
  replace He := He.chg hc (by omega)
  replace HC := HC.trans hc (fun k hk_ e => by first | exact e | (left; exact e) | (right; exact e) | (exfalso; omega))
  clear hc
  clear HA
  have HA := N_
  clear N_
  replace HA : Blk w35 p 89 #[.pointer (some ⟨pg, 0, none⟩), .pointer (some ⟨pf, 0, none⟩), .int .i64 u, .int .i64 a.s, .int .i64 (E[i].t : Int), .int .i64 a.i, .int .i64 (a.d : Int), .slice A_ (i :: l).length c_, .int .i64 zz, .int .i64 m, .int .i64 a.l.u, .int .i64 a.l.q, .int .i64 a.l.s, .int .i64 a.l.n, .int .i64 a.l.e, .int .i64 a.r] := HA
  refine Fw.nil ?_
  refine hK29 _ _ (Fw.FC.sub (f' := [(50, _), (49, _), (48, _), (47, _), (46, _), (45, _), (44, _), (43, _), (42, _), (41, _), (40, _), (39, _), (4, _), (0, _)]) (.cons rfl (.cons rfl (.cons rfl (.cons rfl (.cons rfl (.cons rfl (.cons rfl (.cons rfl (.cons rfl (.cons rfl (.cons rfl (.cons rfl (.cons rfl (.cons rfl .nil)))))))))))))) ?_)
  refine Fw.seq fun _ hK30 => ?_
  refine Fw.regionHS (Chg (· = p) w35) (by kernel_rfl) (Chg.of_below (Fw.drew_low w35) _) ?_
  have R_HA := HA
  have R_HF := HF
  have R_HG := HG
  have R_He := He
  intro w36 hb HS
  replace HA := HA.low hb
  replace HF := HF.low hb
  replace HP := HP.low hb
  replace HG := HG.low hb
  replace He := He.low hb
  replace HC := HC.trans (Chg.of_below hb (· = p)) (fun _ _ h => h)
  clear hb
  refine Fw.hTk 0 rfl rfl (Fw.yV (Fw.val_move rfl)) rfl ?_
  refine Fw.hTk 1 rfl rfl (Fw.yV (Fw.val_nil rfl)) rfl ?_
  refine Fw.hTk 2 rfl rfl (Fw.yV (Fw.val_fieldAddr fl89_8 rfl rfl)) rfl ?_
  refine Fw.hTk 4 rfl rfl (Fw.yV (Fw.val_fieldAddr fl29_2 rfl rfl)) rfl ?_
  refine Fw.hTk 5 rfl rfl (Fw.yV (Fw.hLdC sc2 rfl (R_He.cell 2) (by show ¬ ge = p; omega))) rfl ?_
  refine Fw.hAll1 3 (by kernel_rfl) ?_
  refine Fw.hOp 3 rfl ?_
  refine Fw.ld sc2 rfl (HA.cell 8) rfl ?_
  refine Fw.hNext HS ?_
  refine Fw.hTk 6 rfl rfl (Fw.yV (Fw.val_bin rfl rfl (Fw.b_add (Fw.i64_ok (by omega))))) rfl ?_
  refine Fw.hTk 7 rfl rfl (Fw.yV (Fw.val_nil rfl)) rfl ?_
  refine Fw.hTk 8 rfl rfl (Fw.yV (Fw.val_fieldAddr fl89_8 rfl rfl)) rfl ?_
  refine Fw.hAll1 9 (by kernel_rfl) ?_
  refine Fw.hOp 9 rfl ?_
  refine Fw.store sz2 rfl rfl HA rfl rfl rfl ?_
  intro w37 N_ hc
  replace HF := HF.chg hc (by omega)
  replace HP := HP.chg hc (Fw.RdT.ne_ HP HA (by decide))
  replace HG := HG.kp ((Fw.Kp.refl [89] _).one hc HA rfl) rfl rfl rfl rfl
  replace He := He.chg hc (by omega)
  replace HS := HS.trans hc (fun _ _ h => h)
  replace HC := HC.trans hc (fun k hk_ e => by first | exact e | (left; exact e) | (right; exact e) | (exfalso; omega))
  clear hc
  clear HA
  have HA := N_
  clear N_
  replace HA : Blk w37 p 89 #[.pointer (some ⟨pg, 0, none⟩), .pointer (some ⟨pf, 0, none⟩), .int .i64 u, .int .i64 a.s, .int .i64 (E[i].t : Int), .int .i64 a.i, .int .i64 (a.d : Int), .slice A_ (i :: l).length c_, .int .i64 (zz + E[i].m), .int .i64 m, .int .i64 a.l.u, .int .i64 a.l.q, .int .i64 a.l.s, .int .i64 a.l.n, .int .i64 a.l.e, .int .i64 a.r] := HA
  refine Fw.hNext HS ?_
  refine Fw.hDone (by kernel_rfl) ?_
  refine hK30 _ _ (Fw.FC.sub (f' := [(50, _), (49, _), (48, _), (47, _), (46, _), (45, _), (44, _), (43, _), (42, _), (41, _), (40, _), (39, _), (0, _)]) (.cons rfl (.cons rfl (.cons rfl (.cons rfl (.cons rfl (.cons rfl (.cons rfl (.cons rfl (.cons rfl (.cons rfl (.cons rfl (.cons rfl (.cons rfl .nil))))))))))))) ?_)
  refine Fw.region ?_
  refine Fw.s (Fw.val_move rfl) rfl ?_
  refine Fw.s (Fw.val_move rfl) rfl ?_
  refine Fw.s (Fw.val_nil rfl) rfl ?_
  refine Fw.s (Fw.val_fieldAddr fl89_7 rfl rfl) rfl ?_
  refine Fw.ld sc47 rfl (HA.cell 7) rfl ?_
  refine Fw.s (Fw.val_sliceFrom Try.underlying47 sz3 rfl rfl (show (1 : Int) = ((1 : Nat) : Int) from rfl) (by simp)) rfl ?_
  refine Fw.s (Fw.val_nil rfl) rfl ?_
  refine Fw.s (Fw.val_fieldAddr fl89_7 rfl rfl) rfl ?_
  refine Fw.store sz47 rfl rfl HA rfl rfl rfl ?_
  intro w38 N_ hc
  replace HF := HF.chg hc (by omega)
  replace HP := HP.chg hc (Fw.RdT.ne_ HP HA (by decide))
  replace HG := HG.kp ((Fw.Kp.refl [89] _).one hc HA rfl) rfl rfl rfl rfl
  replace He := He.chg hc (by omega)
  replace HC := HC.trans hc (fun k hk_ e => by first | exact e | (left; exact e) | (right; exact e) | (exfalso; omega))
  clear hc
  clear HA
  have HA := N_
  clear N_
  replace HA : Blk w38 p 89 #[.pointer (some ⟨pg, 0, none⟩), .pointer (some ⟨pf, 0, none⟩), .int .i64 u, .int .i64 a.s, .int .i64 (E[i].t : Int), .int .i64 a.i, .int .i64 (a.d : Int), .slice (cutA A_ c_ 1 1) l.length (c_ - 1), .int .i64 (zz + E[i].m), .int .i64 m, .int .i64 a.l.u, .int .i64 a.l.q, .int .i64 a.l.s, .int .i64 a.l.n, .int .i64 a.l.e, .int .i64 a.r] := HA
  refine Fw.nil ?_
  refine Fw.X_blockN ?_
  replace HP := HP.cut (by simpa using hpc)
  refine Fw.roundEnd _ _ (by have q_ : (i :: l).length = l.length + 1 := rfl; omega) ⟨l, E[i].t, (zz + E[i].m), (cutA A_ c_ 1 1), (c_ - 1), rfl, by rw [← hdr, Ag.drive_go hil hlt], hrl, (hg.net.ok _ (List.getElem_mem hil)).2, ⟨by omega, by omega⟩, by simp only [List.length_cons] at hpc; omega, HA, HF, HP, HG, HC, rfl⟩ (.cons rfl .nil)
  refine Fw.hOp 14 rfl ?_
  refine Fw.alloc ze29 rfl ?_
  intro w39 ge ege He hb
  have rge : w27.heap.size ≤ ge := by have := HS.size; omega
  have n_p_ge : p < ge := by have := HA.lt; omega
  have n_pf_ge : pf < ge := by have := HF.lt; omega
  have lge : w.heap.size ≤ ge := by have := HC.size; omega
  replace HA := HA.low hb
  replace HF := HF.low hb
  replace HP := HP.low hb
  replace HG := HG.low hb
  replace HI := (hb.cell (World.block_lt_of_cell? _ _ HI)).trans HI
  replace HS := HS.trans (hb.mono HS.size)
  replace HC := HC.trans (Chg.of_below hb (· = p)) (fun _ _ h => h)
  clear hb
  clear ege
  refine Fw.hNext HS ?_
  refine Fw.hAll1 10 (by kernel_rfl) ?_
  refine Fw.hOp 10 rfl ?_
  refine Fw.call cf54 rfl rfl (edge_any _ pg N E HG.at_ i hil) ?_
  rintro e_ w40 ⟨rfl, hb⟩
  refine ⟨_, rfl, ?_⟩
  replace HA := HA.low hb
  replace HF := HF.low hb
  replace HP := HP.low hb
  replace HG := HG.low hb
  replace HI := (hb.cell (World.block_lt_of_cell? _ _ HI)).trans HI
  replace HS := HS.trans (hb.mono HS.size)
  replace He := He.low hb
  replace HC := HC.trans (Chg.of_below hb (· = p)) (fun _ _ h => h)
  clear hb
  refine Fw.hNext HS ?_
  refine Fw.hTk 11 rfl rfl (Fw.yV (Fw.val_move rfl)) rfl ?_
  refine Fw.hTk 12 rfl rfl (Fw.yV (Fw.val_extract rfl rfl)) rfl ?_
  refine Fw.hTk 13 rfl rfl (Fw.yV (Fw.val_extract rfl rfl)) rfl ?_
  refine Fw.hAll1 15 (by kernel_rfl) ?_
  refine Fw.hOp 15 rfl ?_
  refine Fw.storeW sz29 rfl rfl He rfl rfl (by exact Fw.oneCells rfl) ?_
  intro w41 N_ hc
  replace HA := HA.chg hc (by omega)
  replace HF := HF.chg hc (by omega)
  replace HP := HP.chg hc (Fw.RdT.ne_ HP He (by decide))
  replace HG := R_HG.low (HS.trans (hc.below (B := w27.heap.size) (fun k e => by omega) HS.size))
  replace HI := cell_chg HI hc (by have h_ := World.block_lt_of_cell? _ _ R_HI; have h_ : b_ < _ := h_; show ¬ b_ = ge; omega)
  replace HS := HS.trans (hc.below (B := w27.heap.size) (fun k e => by omega) HS.size)
  replace HC := HC.trans hc (fun k hk_ e => by first | exact e | (left; exact e) | (right; exact e) | (exfalso; omega))
  clear hc
  clear He
  have He := N_
  clear N_
  replace He : Blk w41 ge 29 #[.int .i64 (E[i].f : Int), .int .i64 (E[i].t : Int), .int .i64 E[i].m] := He
  refine Fw.hNext HS ?_
  refine Fw.hTk 16 rfl rfl (Fw.yV (Fw.val_assign rfl)) rfl ?_
  refine Fw.hDone (by kernel_rfl) ?_
  refine hK24 _ _ (Fw.FC.sub (f' := [(5, _), (4, _), (0, _)]) (.cons rfl (.cons rfl (.cons rfl .nil))) ?_)
  refine Fw.seq fun _ hK31 => ?_
  refine Fw.seq fun _ hK32 => ?_
  clear HI
  refine Fw.regionQ (by kernel_rfl) (by kernel_rfl) ?_
  refine Fw.q (Fw.val_move rfl) rfl ?_
  refine Fw.q (Fw.val_not rfl) rfl ?_
  refine Fw.q (Fw.val_move rfl) rfl ?_
  refine Fw.gTQ (d := 38) rfl rfl ?_
  refine Fw.q (Fw.val_move rfl) rfl ?_
  refine Fw.gTQ (d := 38) rfl rfl ?_
  refine Fw.q (Fw.val_nil rfl) rfl ?_
  refine Fw.gTQ (d := 38) rfl rfl ?_
  refine Fw.q (Fw.val_fieldAddr fl89_9 rfl rfl) rfl ?_
  refine Fw.gTQ (d := 38) rfl rfl ?_
  refine Fw.ldQ sc2 rfl (HA.cell 9) rfl ?_
  refine Fw.gTQ (d := 38) rfl rfl ?_
  refine Fw.q (Fw.val_move rfl) rfl ?_
  refine Fw.gTQ (d := 38) rfl rfl ?_
  refine Fw.q (Fw.val_nil rfl) rfl ?_
  refine Fw.gTQ (d := 38) rfl rfl ?_
  refine Fw.q (Fw.val_fieldAddr fl89_8 rfl rfl) rfl ?_
  refine Fw.gTQ (d := 38) rfl rfl ?_
  refine Fw.ldQ sc2 rfl (HA.cell 8) rfl ?_
  refine Fw.gTQ (d := 38) rfl rfl ?_
  refine Fw.q (Fw.val_bin rfl rfl (Fw.b_sub (Fw.i64_ok (by omega)))) rfl ?_
  refine Fw.gTQ (d := 38) rfl rfl ?_
  refine Fw.q (Fw.val_fieldAddr fl29_2 rfl rfl) rfl ?_
  refine Fw.gTQ (d := 38) rfl rfl ?_
  refine Fw.ldQ sc2 rfl (He.cell 2) rfl ?_
  refine Fw.gTQ (d := 38) rfl rfl ?_
  refine Fw.q2 (Fw.val_bin rfl rfl Fw.b_lss) rfl ?_ ?_
  rintro hlt
  refine Fw.q (Fw.val_pickF rfl rfl) rfl ?_
  refine Fw.nilQ ?_
  intro w42 hb
  replace HA := HA.low hb
  replace HF := HF.low hb
  replace HP := HP.low hb
  replace HG := HG.low hb
  replace He := He.low hb
  replace HC := HC.trans (Chg.of_below hb (· = p)) (fun _ _ h => h)
  clear hb
  refine hK32 _ _ ?_
  refine Fw.condT rfl ?_
  refine Fw.exit ?_
  refine Fw.X_exit ?_
  refine Fw.X_blockO rfl ?_
  refine Fw.X_exit ?_
  refine Fw.X_block ?_
  refine hK19 _ _ (Fw.FC.sub (f' := [(0, _)]) (.cons rfl .nil) ?_)
  obtain ⟨pp, hpp⟩ : ∃ pp, pp = i :: l := ⟨_, rfl⟩
  have hq : Ag.drive E m pp vv zz = (pp, vv, zz) := by rw [hpp]; exact Ag.drive_stop hil hlt
  rw [← hpp] at hdr HA HP hpc
  have hmv : Ag.moved E a m = { a with n := m, p := pp, v := vv, z := zz } := Ag.moved_eq hdr hq
  refine Fw.region ?_
  refine Fw.s (Fw.val_move rfl) rfl ?_
  refine Fw.call cf47 rfl rfl (arrive_any _ p pf pg N E u { a with n := m, p := pp, v := vv, z := zz } ⟨A_, c_, HA, HP, hpc, HF, HG⟩) ?_
  rintro e_ w43 ⟨rfl, H2, hc⟩
  refine ⟨_, rfl, ?_⟩
  replace He := He.chg hc (by omega)
  replace HC := HC.trans hc (fun k hk_ e => by first | exact e | (left; exact e) | (right; exact e) | (exfalso; omega))
  clear hc
  clear HA HP HF HG
  refine Fw.nil ?_
  refine Fw.end_ [] [] Try.results31 .nil ?_
  have ep : Ag.pass E a t = Ag.arrive { a with n := m, p := pp, v := vv, z := zz } := by rw [← hmv, hm]; rfl
  rw [ep]
  exact ⟨rfl, H2, HC⟩
  rintro hlt
  refine Fw.q (Fw.val_pickF rfl rfl) rfl ?_
  refine Fw.nilQ ?_
  intro w44 hb
  replace HA := HA.low hb
  replace HF := HF.low hb
  replace HP := HP.low hb
  replace HG := HG.low hb
  replace He := He.low hb
  replace HC := HC.trans (Chg.of_below hb (· = p)) (fun _ _ h => h)
  clear hb
  refine hK32 _ _ ?_
  refine Fw.condF rfl ?_
  refine Fw.skip ?_
  refine hK31 _ _ ?_
  refine Fw.seq fun _ hK34 => ?_
  refine Fw.region ?_
  refine Fw.s (Fw.val_move rfl) rfl ?_
  refine Fw.s (Fw.val_fieldAddr fl29_1 rfl rfl) rfl ?_
  refine Fw.ld sc3 rfl (He.cell 1) rfl ?_
  refine Fw.s (Fw.val_nil rfl) rfl ?_
  refine Fw.s (Fw.val_fieldAddr fl89_4 rfl rfl) rfl ?_
  refine Fw.store sz3 rfl rfl HA rfl rfl rfl ?_
  intro w45 N_ hc
  replace HF := HF.chg hc (by omega)
  replace HP := HP.chg hc (Fw.RdT.ne_ HP HA (by decide))
  replace HG := HG.kp ((Fw.Kp.refl [89] _).one hc HA rfl) rfl rfl rfl rfl
  replace He := He.chg hc (by omega)
  replace HC := HC.trans hc (fun k hk_ e => by first | exact e | (left; exact e) | (right; exact e) | (exfalso; omega))
  clear hc
  clear HA
  have HA := N_
  clear N_
  replace HA : Blk w45 p 89 #[.pointer (some ⟨pg, 0, none⟩), .pointer (some ⟨pf, 0, none⟩), .int .i64 u, .int .i64 a.s, .int .i64 (E[i].t : Int), .int .i64 a.i, .int .i64 (a.d : Int), .slice A_ (i :: l).length c_, .int .i64 zz, .int .i64 m, .int .i64 a.l.u, .int .i64 a.l.q, .int .i64 a.l.s, .int .i64 a.l.n, .int .i64 a.l.e, .int .i64 a.r] := HA
  refine Fw.nil ?_
  refine hK34 _ _ (Fw.FC.sub (f' := [(50, _), (49, _), (48, _), (47, _), (46, _), (45, _), (44, _), (43, _), (42, _), (41, _), (40, _), (39, _), (4, _), (0, _)]) (.cons rfl (.cons rfl (.cons rfl (.cons rfl (.cons rfl (.cons rfl (.cons rfl (.cons rfl (.cons rfl (.cons rfl (.cons rfl (.cons rfl (.cons rfl (.cons rfl .nil)))))))))))))) ?_)
  refine Fw.seq fun _ hK35 => ?_
  refine Fw.regionHS (Chg (· = p) w45) (by kernel_rfl) (Chg.of_below (Fw.drew_low w45) _) ?_
  have R_HA := HA
  have R_HF := HF
  have R_HG := HG
  have R_He := He
  intro w46 hb HS
  replace HA := HA.low hb
  replace HF := HF.low hb
  replace HP := HP.low hb
  replace HG := HG.low hb
  replace He := He.low hb
  replace HC := HC.trans (Chg.of_below hb (· = p)) (fun _ _ h => h)
  clear hb
  refine Fw.hTk 0 rfl rfl (Fw.yV (Fw.val_move rfl)) rfl ?_
  refine Fw.hTk 1 rfl rfl (Fw.yV (Fw.val_nil rfl)) rfl ?_
  refine Fw.hTk 2 rfl rfl (Fw.yV (Fw.val_fieldAddr fl89_8 rfl rfl)) rfl ?_
  refine Fw.hTk 4 rfl rfl (Fw.yV (Fw.val_fieldAddr fl29_2 rfl rfl)) rfl ?_
  refine Fw.hTk 5 rfl rfl (Fw.yV (Fw.hLdC sc2 rfl (R_He.cell 2) (by show ¬ ge = p; omega))) rfl ?_
  refine Fw.hAll1 3 (by kernel_rfl) ?_
  refine Fw.hOp 3 rfl ?_
  refine Fw.ld sc2 rfl (HA.cell 8) rfl ?_
  refine Fw.hNext HS ?_
  refine Fw.hTk 6 rfl rfl (Fw.yV (Fw.val_bin rfl rfl (Fw.b_add (Fw.i64_ok (by omega))))) rfl ?_
  refine Fw.hTk 7 rfl rfl (Fw.yV (Fw.val_nil rfl)) rfl ?_
  refine Fw.hTk 8 rfl rfl (Fw.yV (Fw.val_fieldAddr fl89_8 rfl rfl)) rfl ?_
  refine Fw.hAll1 9 (by kernel_rfl) ?_
  refine Fw.hOp 9 rfl ?_
  refine Fw.store sz2 rfl rfl HA rfl rfl rfl ?_
  intro w47 N_ hc
  replace HF := HF.chg hc (by omega)
  replace HP := HP.chg hc (Fw.RdT.ne_ HP HA (by decide))
  replace HG := HG.kp ((Fw.Kp.refl [89] _).one hc HA rfl) rfl rfl rfl rfl
  replace He := He.chg hc (by omega)
  replace HS := HS.trans hc (fun _ _ h => h)
  replace HC := HC.trans hc (fun k hk_ e => by first | exact e | (left; exact e) | (right; exact e) | (exfalso; omega))
  clear hc
  clear HA
  have HA := N_
  clear N_
  replace HA : Blk w47 p 89 #[.pointer (some ⟨pg, 0, none⟩), .pointer (some ⟨pf, 0, none⟩), .int .i64 u, .int .i64 a.s, .int .i64 (E[i].t : Int), .int .i64 a.i, .int .i64 (a.d : Int), .slice A_ (i :: l).length c_, .int .i64 (zz + E[i].m), .int .i64 m, .int .i64 a.l.u, .int .i64 a.l.q, .int .i64 a.l.s, .int .i64 a.l.n, .int .i64 a.l.e, .int .i64 a.r] := HA
  refine Fw.hNext HS ?_
  refine Fw.hDone (by kernel_rfl) ?_
  refine hK35 _ _ (Fw.FC.sub (f' := [(50, _), (49, _), (48, _), (47, _), (46, _), (45, _), (44, _), (43, _), (42, _), (41, _), (40, _), (39, _), (0, _)]) (.cons rfl (.cons rfl (.cons rfl (.cons rfl (.cons rfl (.cons rfl (.cons rfl (.cons rfl (.cons rfl (.cons rfl (.cons rfl (.cons rfl (.cons rfl .nil))))))))))))) ?_)
  refine Fw.region ?_
  refine Fw.s (Fw.val_move rfl) rfl ?_
  refine Fw.s (Fw.val_move rfl) rfl ?_
  refine Fw.s (Fw.val_nil rfl) rfl ?_
  refine Fw.s (Fw.val_fieldAddr fl89_7 rfl rfl) rfl ?_
  refine Fw.ld sc47 rfl (HA.cell 7) rfl ?_
  refine Fw.s (Fw.val_sliceFrom Try.underlying47 sz3 rfl rfl (show (1 : Int) = ((1 : Nat) : Int) from rfl) (by simp)) rfl ?_
  refine Fw.s (Fw.val_nil rfl) rfl ?_
  refine Fw.s (Fw.val_fieldAddr fl89_7 rfl rfl) rfl ?_
  refine Fw.store sz47 rfl rfl HA rfl rfl rfl ?_
  intro w48 N_ hc
  replace HF := HF.chg hc (by omega)
  replace HP := HP.chg hc (Fw.RdT.ne_ HP HA (by decide))
  replace HG := HG.kp ((Fw.Kp.refl [89] _).one hc HA rfl) rfl rfl rfl rfl
  replace He := He.chg hc (by omega)
  replace HC := HC.trans hc (fun k hk_ e => by first | exact e | (left; exact e) | (right; exact e) | (exfalso; omega))
  clear hc
  clear HA
  have HA := N_
  clear N_
  replace HA : Blk w48 p 89 #[.pointer (some ⟨pg, 0, none⟩), .pointer (some ⟨pf, 0, none⟩), .int .i64 u, .int .i64 a.s, .int .i64 (E[i].t : Int), .int .i64 a.i, .int .i64 (a.d : Int), .slice (cutA A_ c_ 1 1) l.length (c_ - 1), .int .i64 (zz + E[i].m), .int .i64 m, .int .i64 a.l.u, .int .i64 a.l.q, .int .i64 a.l.s, .int .i64 a.l.n, .int .i64 a.l.e, .int .i64 a.r] := HA
  refine Fw.nil ?_
  refine Fw.X_blockN ?_
  replace HP := HP.cut (by simpa using hpc)
  refine Fw.roundEnd _ _ (by have q_ : (i :: l).length = l.length + 1 := rfl; omega) ⟨l, E[i].t, (zz + E[i].m), (cutA A_ c_ 1 1), (c_ - 1), rfl, by rw [← hdr, Ag.drive_go hil hlt], hrl, (hg.net.ok _ (List.getElem_mem hil)).2, ⟨by omega, by omega⟩, by simp only [List.length_cons] at hpc; omega, HA, HF, HP, HG, HC, rfl⟩ (.cons rfl .nil)
  rintro hlen
  refine Fw.nil ?_
  refine hK22 _ _ ?_
  refine Fw.condF rfl ?_
  refine Fw.exit ?_
  refine Fw.X_exit ?_
  refine Fw.X_exit ?_
  refine Fw.X_block ?_
  refine hK19 _ _ ?_
  have hq : Ag.drive E m pp vv zz = (pp, vv, zz) := by
    cases pp with
    | nil => rfl
    | cons i l => simp at hlen
  have hmv : Ag.moved E a m = { a with n := m, p := pp, v := vv, z := zz } := Ag.moved_eq hdr hq
  refine Fw.region ?_
  refine Fw.s (Fw.val_move rfl) rfl ?_
  refine Fw.call cf47 rfl rfl (arrive_any _ p pf pg N E u { a with n := m, p := pp, v := vv, z := zz } ⟨A_, c_, HA, HP, hpc, HF, HG⟩) ?_
  rintro e_ w49 ⟨rfl, H2, hc⟩
  refine ⟨_, rfl, ?_⟩
  replace HC := HC.trans hc (fun k hk_ e => by first | exact e | (left; exact e) | (right; exact e) | (exfalso; omega))
  clear hc
  clear HA HP HF HG
  refine Fw.nil ?_
  refine Fw.end_ [] [] Try.results31 .nil ?_
  have ep : Ag.pass E a t = Ag.arrive { a with n := m, p := pp, v := vv, z := zz } := by rw [← hmv, hm]; rfl
  rw [ep]
  exact ⟨rfl, H2, HC⟩

set_option maxRecDepth 100000 in
set_option maxHeartbeats 1000000 in
theorem admissible_any (w : World) (p pf pg N : Nat) (E : List Rg.Ed) (u : Int) (a : Ag) (h : AgAt w p pf pg N E u a) (o : Or.O) : Calls Try.prog 44 #[.pointer (some ⟨p, 0, none⟩), .agg #[.int .i64 o.u, .int .i64 o.e, .int .i64 o.k, .int .i64 o.i, .int .i64 o.n]] w fun e_ w' => e_ = .returned (.bool (Ag.adm N u o)) ∧ Below w.heap.size w w' := by
  obtain ⟨A, c, HA, HP, hpc, HF, HG⟩ := h
  have hpl := HA.lt
  have hfl := Blk.lt HF
  have n_pf : p ≠ pf := Blk.ne_ HA HF (by decide)
  refine Fw.calls Try.func44 rfl Try.ntmps44 rfl ?_
  have HB := Below.refl (w.heap.size) w
  refine Fw.seq fun _ hK1 => ?_
  refine Fw.region ?_
  refine Fw.box rfl rfl ?_
  intro w1 gx egx Hx hb
  have lgx : w.heap.size ≤ gx := by have := HB.size; omega
  replace HB := HB.trans (hb.mono HB.size)
  clear hb
  clear egx
  refine Fw.s (Fw.val_assign rfl) rfl ?_
  refine Fw.nil ?_
  refine hK1 _ _ ?_
  refine Fw.seq fun _ hK2 => ?_
  refine Fw.seq fun _ hK3 => ?_
  refine Fw.regionQ (by kernel_rfl) (by kernel_rfl) ?_
  refine Fw.q (Fw.val_move rfl) rfl ?_
  refine Fw.q (Fw.val_nil rfl) rfl ?_
  refine Fw.q (Fw.val_fieldAddr fl89_0 rfl rfl) rfl ?_
  refine Fw.ldQ sc24 rfl ((HA.low HB).cell 0) rfl ?_
  refine Fw.q (Fw.val_bin rfl rfl (Fw.b_nilP Try.underlying24)) rfl ?_
  refine Fw.q (Fw.val_move rfl) rfl ?_
  refine Fw.gTQ (d := 10) rfl rfl ?_
  refine Fw.q (Fw.val_move rfl) rfl ?_
  refine Fw.gTQ (d := 10) rfl rfl ?_
  refine Fw.q (Fw.val_nil rfl) rfl ?_
  refine Fw.gTQ (d := 10) rfl rfl ?_
  refine Fw.q (Fw.val_fieldAddr fl89_1 rfl rfl) rfl ?_
  refine Fw.gTQ (d := 10) rfl rfl ?_
  refine Fw.ldQ sc85 rfl ((HA.low HB).cell 1) rfl ?_
  refine Fw.gTQ (d := 10) rfl rfl ?_
  refine Fw.q (Fw.val_bin rfl rfl (Fw.b_nilP Try.underlying85)) rfl ?_
  refine Fw.q (Fw.val_pickF rfl rfl) rfl ?_
  refine Fw.q (Fw.val_move rfl) rfl ?_
  refine Fw.gTQ (d := 17) rfl rfl ?_
  refine Fw.ldAQ ag50 rfl (Fw.rdBlk Hx) rfl rfl ?_
  refine Fw.gTQ (d := 17) rfl rfl ?_
  refine Fw.callQ cf38 rfl rfl (fun w_ hb_ => valid_any o _) (fun _ _ _ h => h) ?_
  refine Fw.b2Q ?_ ?_
  rintro hv
  refine Fw.gTQ (d := 17) rfl rfl ?_
  refine Fw.q (Fw.val_not rfl) rfl ?_
  refine Fw.q (Fw.val_pickF rfl rfl) rfl ?_
  refine Fw.q (Fw.val_move rfl) rfl ?_
  refine Fw.gTQ (d := 22) rfl rfl ?_
  refine Fw.q (Fw.val_fieldAddr fl50_0 rfl rfl) rfl ?_
  refine Fw.gTQ (d := 22) rfl rfl ?_
  refine Fw.ldQ sc3 rfl (Hx.cell 0) rfl ?_
  refine Fw.gTQ (d := 22) rfl rfl ?_
  refine Fw.q (Fw.val_move rfl) rfl ?_
  refine Fw.gTQ (d := 22) rfl rfl ?_
  refine Fw.q (Fw.val_nil rfl) rfl ?_
  refine Fw.gTQ (d := 22) rfl rfl ?_
  refine Fw.q (Fw.val_fieldAddr fl89_2 rfl rfl) rfl ?_
  refine Fw.gTQ (d := 22) rfl rfl ?_
  refine Fw.ldQ sc3 rfl ((HA.low HB).cell 2) rfl ?_
  refine Fw.gTQ (d := 22) rfl rfl ?_
  refine Fw.q2 (Fw.val_bin rfl rfl Fw.b_neq) rfl ?_ ?_
  rintro hu
  refine Fw.q (Fw.val_pickF rfl rfl) rfl ?_
  refine Fw.nilQ ?_
  intro w2 hb
  replace Hx := Hx.low hb
  replace HB := HB.trans (hb.mono HB.size)
  clear hb
  refine hK3 _ _ (Fw.FC.sub (f' := [(30, _), (3, _), (0, _)]) (.cons rfl (.cons rfl (.cons rfl .nil))) ?_)
  refine Fw.condT rfl ?_
  refine Fw.seq fun _ hK5 => ?_
  refine Fw.region ?_
  refine Fw.s (Fw.val_assign rfl) rfl ?_
  refine Fw.nil ?_
  refine hK5 _ _ ?_
  refine Fw.ret ?_
  refine Fw.X_ret ?_
  refine Fw.ret_ [.tmp 4] [_] Try.results44 (.tmp rfl .nil) ?_
  have e : Ag.adm N u o = false := by unfold Ag.adm; rw [decide_eq_false hu, Bool.and_false]; rfl
  rw [e]
  exact ⟨rfl, HB⟩
  rintro hu
  refine Fw.q (Fw.val_pickF rfl rfl) rfl ?_
  refine Fw.nilQ ?_
  intro w3 hb
  replace Hx := Hx.low hb
  replace HB := HB.trans (hb.mono HB.size)
  clear hb
  refine hK3 _ _ (Fw.FC.sub (f' := [(30, _), (3, _), (0, _)]) (.cons rfl (.cons rfl (.cons rfl .nil))) ?_)
  refine Fw.condF rfl ?_
  refine Fw.skip ?_
  refine hK2 _ _ ?_
  refine Fw.seq fun _ hK6 => ?_
  refine Fw.regionQ (by kernel_rfl) (by kernel_rfl) ?_
  refine Fw.q (Fw.val_fieldAddr fl50_2 rfl rfl) rfl ?_
  refine Fw.ldQ sc3 rfl (Hx.cell 2) rfl ?_
  refine Fw.q2 (Fw.val_bin rfl rfl Fw.b_eql) rfl ?_ ?_
  rintro hk
  refine Fw.q (Fw.val_move rfl) rfl ?_
  refine Fw.gFQ (d := 34) rfl rfl rfl rfl ?_
  refine Fw.gFQ (d := 34) rfl rfl rfl rfl ?_
  refine Fw.gFQ (d := 34) rfl rfl rfl rfl ?_
  refine Fw.gFQ (d := 34) rfl rfl rfl rfl ?_
  refine Fw.gFQ (d := 34) rfl rfl rfl rfl ?_
  refine Fw.gFQ (d := 34) rfl rfl rfl rfl ?_
  refine Fw.gFQ (d := 34) rfl rfl rfl rfl ?_
  refine Fw.gFQ (d := 34) rfl rfl rfl rfl ?_
  refine Fw.q (Fw.val_pickT rfl rfl) rfl ?_
  refine Fw.q (Fw.val_assign rfl) rfl ?_
  refine Fw.nilQ ?_
  intro w4 hb
  replace Hx := Hx.low hb
  replace HB := HB.trans (hb.mono HB.size)
  clear hb
  refine hK6 _ _ (Fw.FC.sub (f' := [(4, _)]) (.cons rfl .nil) ?_)
  refine Fw.ret ?_
  refine Fw.ret_ [.tmp 4] [_] Try.results44 (.tmp rfl .nil) ?_
  have e : Ag.adm N u o = true := by unfold Ag.adm; rw [hv, decide_eq_true (Classical.byContradiction hu), decide_eq_true hk]; rfl
  rw [e]
  exact ⟨rfl, HB⟩
  rintro hk
  refine Fw.q (Fw.val_move rfl) rfl ?_
  refine Fw.gTQ (d := 34) rfl rfl ?_
  refine Fw.q (Fw.val_fieldAddr fl50_4 rfl rfl) rfl ?_
  refine Fw.gTQ (d := 34) rfl rfl ?_
  refine Fw.ldQ sc3 rfl (Hx.cell 4) rfl ?_
  refine Fw.gTQ (d := 34) rfl rfl ?_
  refine Fw.q (Fw.val_move rfl) rfl ?_
  refine Fw.gTQ (d := 34) rfl rfl ?_
  refine Fw.q (Fw.val_nil rfl) rfl ?_
  refine Fw.gTQ (d := 34) rfl rfl ?_
  refine Fw.q (Fw.val_fieldAddr fl89_0 rfl rfl) rfl ?_
  refine Fw.gTQ (d := 34) rfl rfl ?_
  refine Fw.ldQ sc24 rfl ((HA.low HB).cell 0) rfl ?_
  refine Fw.gTQ (d := 34) rfl rfl ?_
  refine Fw.callQ cf29 rfl rfl (fun w_ hb_ => nodes_any _ pg N E (HG.at_.low (HB.trans (hb_.mono HB.size)))) (fun _ _ _ h => ⟨h.1, h.2 ▸ Below.refl _ _⟩) ?_
  refine Fw.gTQ (d := 34) rfl rfl ?_
  refine Fw.q (Fw.val_bin rfl rfl Fw.b_lss) rfl ?_
  refine Fw.q (Fw.val_pickF rfl rfl) rfl ?_
  refine Fw.q (Fw.val_assign rfl) rfl ?_
  refine Fw.nilQ ?_
  intro w5 hb
  replace Hx := Hx.low hb
  replace HB := HB.trans (hb.mono HB.size)
  clear hb
  refine hK6 _ _ (Fw.FC.sub (f' := [(4, _)]) (.cons rfl .nil) ?_)
  refine Fw.ret ?_
  refine Fw.ret_ [.tmp 4] [_] Try.results44 (.tmp rfl .nil) ?_
  have e : Ag.adm N u o = decide (o.n < N) := by unfold Ag.adm; rw [hv, decide_eq_true (Classical.byContradiction hu), decide_eq_false hk]; rfl
  rw [e]
  exact ⟨rfl, HB⟩
  rintro hv
  refine Fw.gTQ (d := 17) rfl rfl ?_
  refine Fw.q (Fw.val_not rfl) rfl ?_
  refine Fw.q (Fw.val_pickF rfl rfl) rfl ?_
  refine Fw.q (Fw.val_move rfl) rfl ?_
  refine Fw.gFQ (d := 22) rfl rfl rfl rfl ?_
  refine Fw.gFQ (d := 22) rfl rfl rfl rfl ?_
  refine Fw.gFQ (d := 22) rfl rfl rfl rfl ?_
  refine Fw.gFQ (d := 22) rfl rfl rfl rfl ?_
  refine Fw.gFQ (d := 22) rfl rfl rfl rfl ?_
  refine Fw.gFQ (d := 22) rfl rfl rfl rfl ?_
  refine Fw.gFQ (d := 22) rfl rfl rfl rfl ?_
  refine Fw.q (Fw.val_pickT rfl rfl) rfl ?_
  refine Fw.nilQ ?_
  intro w6 hb
  replace Hx := Hx.low hb
  replace HB := HB.trans (hb.mono HB.size)
  clear hb
  refine hK3 _ _ (Fw.FC.sub (f' := [(30, _), (3, _), (0, _)]) (.cons rfl (.cons rfl (.cons rfl .nil))) ?_)
  refine Fw.condT rfl ?_
  refine Fw.seq fun _ hK8 => ?_
  refine Fw.region ?_
  refine Fw.s (Fw.val_assign rfl) rfl ?_
  refine Fw.nil ?_
  refine hK8 _ _ ?_
  refine Fw.ret ?_
  refine Fw.X_ret ?_
  refine Fw.ret_ [.tmp 4] [_] Try.results44 (.tmp rfl .nil) ?_
  have e : Ag.adm N u o = false := by unfold Ag.adm; rw [hv]; rfl
  rw [e]
  exact ⟨rfl, HB⟩

end Go.Proofs.Ytodhpooddmeghaa
