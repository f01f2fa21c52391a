/- Layer 29: the radio hears, speaks, begins. -/
import Derived.Test.YtmacmlgjejdhpaaAe
namespace Go.Proofs.Ytmacmlgjejdhpaa
set_option linter.unusedSimpArgs false
set_option linter.unusedVariables false
open Go.RowKit

set_option maxRecDepth 100000 in
set_option maxHeartbeats 4000000 in
theorem rHear_any (w : World) (B q N : Nat) (E : List Rg.Ed) (u : Int) (Ae : Option Addr) (ce : Nat) (mn : Int) (mg : Or.F) (t : Int) (o : Or.O) (h : RaAt w B q N E u Ae ce mn mg) : Calls Try.prog 36 #[.pointer (some ⟨q, 0, none⟩), .agg #[.int .i64 o.u, .int .i64 o.e, .int .i64 o.k, .int .i64 o.i, .int .i64 o.n], .int .i64 t] w fun e_ w' => ∃ b k, e_ = .returned (.tuple #[.bool b, .int .i64 k]) ∧ RaAt w' B q N E u Ae ce (if Ag.adm N u o = true then max mn (Ag.cl t) else mn) (if Ag.adm N u o = true then Or.tk mg o else mg) ∧ Chg (· = q) w w' := by
  obtain ⟨hBq, s, v, i, d, pp, A, c, sp, l, r, HR, HP, hpc, HE, ho⟩ := h
  have hql := HR.lt
  obtain ⟨mg2, hmg2⟩ : ∃ x_, x_ = Or.tk mg o := ⟨_, rfl⟩
  have hgu2 : mg2.u = mg.u := by rw [hmg2]; exact Or.tk_u mg o
  refine Fw.calls Try.func36 rfl Try.ntmps36 rfl ?_
  have HC := Chg.refl (· = q) w
  refine Fw.seq fun _ hK1 => ?_
  refine Fw.region ?_
  refine Fw.box rfl rfl ?_
  intro w1 gx egx Hx hb
  have n_q_gx : q < gx := by have := HR.lt; omega
  have lgx : w.heap.size ≤ gx := by have := HC.size; omega
  replace HR := HR.low hb
  replace HP := HP.low hb
  replace HE := HE.below (hb.mono HE.1)
  replace HC := HC.trans (Chg.of_below hb (· = q)) (fun _ _ h => h)
  clear hb
  clear egx
  refine Fw.s (Fw.val_assign rfl) rfl ?_
  refine Fw.s (Fw.val_assign rfl) rfl ?_
  refine Fw.nil ?_
  refine hK1 _ _ ?_
  refine Fw.seq fun _ hK2 => ?_
  refine Fw.seq fun _ hK3 => ?_
  refine Fw.region ?_
  refine Fw.s (Fw.val_move rfl) rfl ?_
  refine Fw.ldA ag43 rfl (Fw.rdBlk Hx) rfl rfl ?_
  refine Fw.call cf17 rfl rfl (rright29_any _ B q N E u Ae ce mn mg ⟨hBq, s, v, i, d, pp, A, c, sp, l, r, HR, HP, hpc, HE, ho⟩ o) ?_
  rintro e_ w2 ⟨rfl, hb⟩
  refine ⟨_, rfl, ?_⟩
  replace HR := HR.low hb
  replace HP := HP.low hb
  replace HE := HE.below (hb.mono HE.1)
  replace Hx := Hx.low hb
  replace HC := HC.trans (Chg.of_below hb (· = q)) (fun _ _ h => h)
  clear hb
  refine Fw.b2 ?_ ?_
  rintro hadm
  refine Fw.s (Fw.val_not rfl) rfl ?_
  refine Fw.nil ?_
  refine hK3 _ _ (Fw.FC.sub (f' := [(14, _), (4, _), (0, _), (2, _)]) (.cons rfl (.cons rfl (.cons rfl (.cons rfl .nil)))) ?_)
  refine Fw.condF rfl ?_
  refine Fw.skip ?_
  refine hK2 _ _ ?_
  refine Fw.seq fun _ hK4 => ?_
  have hov := Ag.adm_valid hadm
  have hvn := Ag.valid_node hov.1
  have hon : o.n.toNat < N := by have := hov.2.2; have := ho.hv; omega
  have hon2 : ((o.n.toNat : Nat) : Int) = o.n := Int.toNat_of_nonneg hvn.2.1
  refine Fw.region ?_
  refine Fw.s (Fw.val_move rfl) rfl ?_
  refine Fw.s (Fw.val_move rfl) rfl ?_
  refine Fw.call cf41 rfl rfl (tick_any _ B q N E u Ae ce mn mg t ⟨hBq, s, v, i, d, pp, A, c, sp, l, r, HR, HP, hpc, HE, ho⟩) ?_
  rintro e_ w3 ⟨rfl, H2, hc⟩
  refine ⟨_, rfl, ?_⟩
  replace Hx := Hx.chg hc (by omega)
  replace HC := HC.trans hc (fun k hk_ e => by first | exact e | (left; exact e) | (right; exact e) | (exfalso; omega))
  clear hc
  clear HR HP HE
  obtain ⟨_, s2, v2, i2, d2, pp2, A2, c2, sp2, l2, r2, HR, HP, hpc2, HE, ho2⟩ := H2
  have hql2 := HR.lt
  refine Fw.nil ?_
  refine hK4 _ _ ?_
  refine Fw.seq fun _ hK5 => ?_
  refine Fw.regionH (by kernel_rfl) ?_
  have R_HR := HR
  have R_Hx := Hx
  intro w4 hb
  have HS := hb
  replace HR := HR.low hb
  replace HP := HP.low hb
  replace HE := HE.below (hb.mono HE.1)
  replace Hx := Hx.low hb
  replace HC := HC.trans (Chg.of_below hb (· = q)) (fun _ _ h => h)
  clear hb
  refine Fw.hTk 0 rfl rfl (Fw.yV (Fw.val_move rfl)) rfl ?_
  refine Fw.hTk 1 rfl rfl (Fw.yV (Fw.val_nil rfl)) rfl ?_
  refine Fw.hTk 2 rfl rfl (Fw.yV (Fw.val_fieldAddr fl50_1 rfl rfl)) rfl ?_
  refine Fw.hTk 3 rfl rfl (Fw.yV (Fw.hLdA ag45 rfl (Fw.rdPart (Fw.rdBlk R_HR) 2 6) rfl)) rfl ?_
  refine Fw.hTk 4 rfl rfl (Fw.yV (Fw.hLdA ag43 rfl (Fw.rdBlk R_Hx) rfl)) rfl ?_
  refine Fw.hAll2 5 10 (by kernel_rfl) ?_ ?_
  refine Fw.hOp 5 rfl ?_
  refine Fw.call cf54 rfl rfl (by have := take_any mg o w4; rw [← hmg2] at this; exact this) ?_
  rintro e_ w5 ⟨rfl, hb⟩
  refine ⟨_, rfl, ?_⟩
  replace HR := HR.low hb
  replace HP := HP.low hb
  replace HE := HE.below (hb.mono HE.1)
  replace Hx := Hx.low hb
  replace HS := HS.trans (hb.mono HS.size)
  replace HC := HC.trans (Chg.of_below hb (· = q)) (fun _ _ h => h)
  clear hb
  refine Fw.hNext HS ?_
  refine Fw.hTk 6 rfl rfl (Fw.yV (Fw.val_move rfl)) rfl ?_
  refine Fw.hTk 7 rfl rfl (Fw.yV (Fw.val_extract rfl rfl)) rfl ?_
  refine Fw.hTk 8 rfl rfl (Fw.yV (Fw.val_extract rfl rfl)) rfl ?_
  refine Fw.hTk 9 rfl rfl (Fw.yV (Fw.val_extract rfl rfl)) rfl ?_
  refine Fw.hAll1 10 (by kernel_rfl) ?_
  refine Fw.hOp 10 rfl ?_
  refine Fw.alloc ze45 rfl ?_
  intro w6 ggt eggt Hgt hb
  have rggt : w3.heap.size ≤ ggt := by have := HS.size; omega
  have n_q_ggt : q < ggt := by have := HR.lt; omega
  have n_gx_ggt : gx < ggt := by have := Hx.lt; omega
  have lggt : w.heap.size ≤ ggt := by have := HC.size; omega
  replace HR := HR.low hb
  replace HP := HP.low hb
  replace HE := HE.below (hb.mono HE.1)
  replace Hx := Hx.low hb
  replace HS := HS.trans (hb.mono HS.size)
  replace HC := HC.trans (Chg.of_below hb (· = q)) (fun _ _ h => h)
  clear hb
  clear eggt
  refine Fw.hNext HS ?_
  refine Fw.hAll1 11 (by kernel_rfl) ?_
  refine Fw.hOp 11 rfl ?_
  refine Fw.storeW sz45 rfl rfl Hgt rfl rfl (by exact Fw.oneCells rfl) ?_
  intro w7 N_ hc
  replace HR := HR.chg hc (by omega)
  replace HP := HP.chg hc (Fw.RdT.ne_ HP Hgt (by decide))
  replace HE := HE.below (hc.below (B := B) (fun k e => by omega) HE.1)
  replace Hx := Hx.chg hc (by omega)
  replace HS := HS.trans (hc.below (B := w3.heap.size) (fun k e => by omega) HS.size)
  replace HC := HC.trans hc (fun k hk_ e => by first | exact e | (left; exact e) | (right; exact e) | (exfalso; omega))
  clear hc
  clear Hgt
  have Hgt := N_
  clear N_
  replace Hgt : Blk w7 ggt 45 #[.int .i64 mg2.u, .int .i64 mg2.o.u, .int .i64 mg2.o.e, .int .i64 mg2.o.k, .int .i64 mg2.o.i, .int .i64 mg2.o.n] := Hgt
  refine Fw.hNext HS ?_
  refine Fw.hTk 12 rfl rfl (Fw.yV (Fw.val_assign rfl)) rfl ?_
  refine Fw.hTk 13 rfl rfl (Fw.yV (Fw.val_assign rfl)) rfl ?_
  refine Fw.hDone (by kernel_rfl) ?_
  refine hK5 _ _ (Fw.FC.sub (f' := [(9, _), (8, _), (4, _), (0, _)]) (.cons rfl (.cons rfl (.cons rfl (.cons rfl .nil)))) ?_)
  refine Fw.seq fun _ hK6 => ?_
  refine Fw.region ?_
  refine Fw.s (Fw.val_move rfl) rfl ?_
  refine Fw.ldA ag45 rfl (Fw.rdBlk Hgt) rfl rfl ?_
  refine Fw.s (Fw.val_nil rfl) rfl ?_
  refine Fw.s (Fw.val_fieldAddr fl50_1 rfl rfl) rfl ?_
  refine Fw.storeP sz45 rfl rfl HR rfl rfl (by exact Fw.oneCells rfl) ?_
  intro w8 N_ hc
  replace HP := HP.chg hc (Fw.RdT.ne_ HP HR (by decide))
  replace HE := HE.below (hc.below (B := B) (fun k e => by omega) HE.1)
  replace Hx := Hx.chg hc (by omega)
  replace Hgt := Hgt.chg hc (by omega)
  replace HC := HC.trans hc (fun k hk_ e => by first | exact e | (left; exact e) | (right; exact e) | (exfalso; omega))
  clear hc
  clear HR
  have HR := N_
  clear N_
  replace HR : Blk w8 q 50 #[.int .i64 (N : Int), .slice Ae E.length ce, .int .i64 mg2.u, .int .i64 mg2.o.u, .int .i64 mg2.o.e, .int .i64 mg2.o.k, .int .i64 mg2.o.i, .int .i64 mg2.o.n, .int .i64 s2, .int .i64 (v2 : Int), .int .i64 i2, .int .i64 (d2 : Int), .slice A2 pp2.length c2, .int .i64 sp2, .int .i64 (max mn (Ag.cl t)), .int .i64 l2.u, .int .i64 l2.q, .int .i64 l2.s, .int .i64 l2.n, .int .i64 l2.e, .int .i64 r2] := HR
  refine Fw.nil ?_
  refine hK6 _ _ ?_
  refine Fw.seq fun _ hK7 => ?_
  refine Fw.seq fun _ hK8 => ?_
  replace ho2 := ho2.gate hgu2
  refine Fw.region ?_
  refine Fw.s (Fw.val_move rfl) rfl ?_
  refine Fw.b2 ?_ ?_
  rintro hacc
  refine Fw.s (Fw.val_not rfl) rfl ?_
  refine Fw.s (Fw.val_move rfl) rfl ?_
  refine Fw.gT (d := 34) rfl rfl ?_
  refine Fw.s (Fw.val_move rfl) rfl ?_
  refine Fw.gT (d := 34) rfl rfl ?_
  refine Fw.s (Fw.val_nil rfl) rfl ?_
  refine Fw.gT (d := 34) rfl rfl ?_
  refine Fw.s (Fw.val_fieldAddr fl50_2 rfl rfl) rfl ?_
  refine Fw.gT (d := 34) rfl rfl ?_
  refine Fw.ld sc3 rfl (HR.cell 8) rfl ?_
  refine Fw.gT (d := 34) rfl rfl ?_
  refine Fw.s2 (Fw.val_bin rfl rfl Fw.b_eql) rfl ?_ ?_
  rintro h6
  refine Fw.s (Fw.val_pickF rfl rfl) rfl ?_
  refine Fw.nil ?_
  refine hK8 _ _ (Fw.FC.sub (f' := [(40, _), (9, _), (4, _), (0, _)]) (.cons rfl (.cons rfl (.cons rfl (.cons rfl .nil)))) ?_)
  refine Fw.condT rfl ?_
  refine Fw.seq fun _ hK10 => ?_
  refine Fw.region ?_
  refine Fw.s (Fw.val_move rfl) rfl ?_
  refine Fw.s (Fw.val_assign rfl) rfl ?_
  refine Fw.s (Fw.val_assign rfl) rfl ?_
  refine Fw.nil ?_
  refine hK10 _ _ ?_
  refine Fw.ret ?_
  refine Fw.X_ret ?_
  refine Fw.ret_ [.tmp 6, .tmp 7] [_, _] Try.results36 (.tmp rfl (.tmp rfl .nil)) ?_
  rw [if_pos hadm, if_pos hadm, ← hmg2]
  exact ⟨_, _, rfl, ⟨hBq, s2, v2, i2, d2, pp2, A2, c2, sp2, l2, r2, HR, HP, hpc2, HE, ho2⟩, HC⟩
  rintro h6
  refine Fw.s (Fw.val_pickF rfl rfl) rfl ?_
  refine Fw.nil ?_
  refine hK8 _ _ (Fw.FC.sub (f' := [(40, _), (9, _), (4, _), (0, _)]) (.cons rfl (.cons rfl (.cons rfl (.cons rfl .nil)))) ?_)
  refine Fw.condF rfl ?_
  refine Fw.skip ?_
  refine hK7 _ _ ?_
  refine Fw.seq fun _ hK11 => ?_
  refine Fw.seq fun _ hK12 => ?_
  refine Fw.region ?_
  refine Fw.s (Fw.val_fieldAddr fl43_2 rfl rfl) rfl ?_
  refine Fw.ld sc3 rfl (Hx.cell 2) rfl ?_
  refine Fw.nil ?_
  refine hK12 _ _ ?_
  refine Fw.block ?_
  refine Fw.seq fun _ hK13 => ?_
  refine Fw.region ?_
  refine Fw.s2 (Fw.val_bin rfl rfl Fw.b_eql) rfl ?_ ?_
  rintro k1
  refine Fw.s (Fw.val_assign rfl) rfl ?_
  refine Fw.nil ?_
  refine hK13 _ _ ?_
  refine Fw.condT rfl ?_
  refine Fw.seq fun _ hK15 => ?_
  refine Fw.regionHS (Chg (· = q) w8) (by kernel_rfl) (Chg.of_below (Fw.drew_low w8) _) ?_
  have R_HR := HR
  have R_Hx := Hx
  have R_Hgt := Hgt
  intro w9 hb HS
  replace HR := HR.low hb
  replace HP := HP.low hb
  replace HE := HE.below (hb.mono HE.1)
  replace Hx := Hx.low hb
  replace Hgt := Hgt.low hb
  replace HC := HC.trans (Chg.of_below hb (· = q)) (fun _ _ h => h)
  clear hb
  refine Fw.hTk 0 rfl rfl (Fw.yV (Fw.val_move rfl)) rfl ?_
  refine Fw.hTk 1 rfl rfl (Fw.yV (Fw.val_move rfl)) rfl ?_
  refine Fw.hTk 2 rfl rfl (Fw.yV (Fw.val_fieldAddr fl43_3 rfl rfl)) rfl ?_
  refine Fw.hTk 3 rfl rfl (Fw.yV (Fw.hLdC sc2 rfl (R_Hx.cell 3) (by show ¬ gx = q; omega))) rfl ?_
  refine Fw.hTk 4 rfl rfl (Fw.yV (Fw.val_nil rfl)) rfl ?_
  refine Fw.hTk 5 rfl rfl (Fw.yV (Fw.val_fieldAddr fl50_2 rfl rfl)) rfl ?_
  refine Fw.hAll1 6 (by kernel_rfl) ?_
  refine Fw.hOp 6 rfl ?_
  refine Fw.store sz3 rfl rfl HR rfl rfl rfl ?_
  intro w10 N_ hc
  replace HP := HP.chg hc (Fw.RdT.ne_ HP HR (by decide))
  replace HE := HE.below (hc.below (B := B) (fun k e => by omega) HE.1)
  replace Hx := Hx.chg hc (by omega)
  replace Hgt := Hgt.chg hc (by omega)
  replace HS := HS.trans hc (fun _ _ h => h)
  replace HC := HC.trans hc (fun k hk_ e => by first | exact e | (left; exact e) | (right; exact e) | (exfalso; omega))
  clear hc
  clear HR
  have HR := N_
  clear N_
  replace HR : Blk w10 q 50 #[.int .i64 (N : Int), .slice Ae E.length ce, .int .i64 mg2.u, .int .i64 mg2.o.u, .int .i64 mg2.o.e, .int .i64 mg2.o.k, .int .i64 mg2.o.i, .int .i64 mg2.o.n, .int .i64 3, .int .i64 (v2 : Int), .int .i64 i2, .int .i64 (d2 : Int), .slice A2 pp2.length c2, .int .i64 sp2, .int .i64 (max mn (Ag.cl t)), .int .i64 l2.u, .int .i64 l2.q, .int .i64 l2.s, .int .i64 l2.n, .int .i64 l2.e, .int .i64 r2] := HR
  refine Fw.hNext HS ?_
  refine Fw.hTk 7 rfl rfl (Fw.yV (Fw.val_nil rfl)) rfl ?_
  refine Fw.hTk 8 rfl rfl (Fw.yV (Fw.val_fieldAddr fl50_4 rfl rfl)) rfl ?_
  refine Fw.hAll1 9 (by kernel_rfl) ?_
  refine Fw.hOp 9 rfl ?_
  refine Fw.store sz2 rfl rfl HR rfl rfl rfl ?_
  intro w11 N_ hc
  replace HP := HP.chg hc (Fw.RdT.ne_ HP HR (by decide))
  replace HE := HE.below (hc.below (B := B) (fun k e => by omega) HE.1)
  replace Hx := Hx.chg hc (by omega)
  replace Hgt := Hgt.chg hc (by omega)
  replace HS := HS.trans hc (fun _ _ h => h)
  replace HC := HC.trans hc (fun k hk_ e => by first | exact e | (left; exact e) | (right; exact e) | (exfalso; omega))
  clear hc
  clear HR
  have HR := N_
  clear N_
  replace HR : Blk w11 q 50 #[.int .i64 (N : Int), .slice Ae E.length ce, .int .i64 mg2.u, .int .i64 mg2.o.u, .int .i64 mg2.o.e, .int .i64 mg2.o.k, .int .i64 mg2.o.i, .int .i64 mg2.o.n, .int .i64 3, .int .i64 (v2 : Int), .int .i64 o.i, .int .i64 (d2 : Int), .slice A2 pp2.length c2, .int .i64 sp2, .int .i64 (max mn (Ag.cl t)), .int .i64 l2.u, .int .i64 l2.q, .int .i64 l2.s, .int .i64 l2.n, .int .i64 l2.e, .int .i64 r2] := HR
  refine Fw.hNext HS ?_
  refine Fw.hDone (by kernel_rfl) ?_
  refine hK15 _ _ (Fw.FC.sub (f' := [(4, _), (0, _)]) (.cons rfl (.cons rfl .nil)) ?_)
  refine Fw.seq fun _ hK16 => ?_
  refine Fw.region ?_
  refine Fw.s (Fw.val_move rfl) rfl ?_
  refine Fw.s (Fw.val_fieldAddr fl43_4 rfl rfl) rfl ?_
  refine Fw.ld sc3 rfl (Hx.cell 4) rfl ?_
  refine Fw.call cf55 rfl rfl ((by have := lead_any _ B q N E u Ae ce (max mn (Ag.cl t)) mg2 ⟨hBq, 3, v2, o.i, d2, pp2, A2, c2, sp2, l2, r2, HR, HP, hpc2, HE, ho2⟩ o.n.toNat hon; rw [hon2] at this; exact this)) ?_
  rintro e_ w12 ⟨rfl, H2, hc⟩
  refine ⟨_, rfl, ?_⟩
  replace Hx := Hx.chg hc (by omega)
  replace Hgt := Hgt.chg hc (by omega)
  replace HC := HC.trans hc (fun k hk_ e => by first | exact e | (left; exact e) | (right; exact e) | (exfalso; omega))
  clear hc
  clear HR HP HE
  obtain ⟨_, s3, v3, i3, d3, pp3, A3, c3, sp3, l3, r3, HR, HP, hpc3, HE, ho3⟩ := H2
  have hql3 := HR.lt
  refine Fw.nil ?_
  refine hK16 _ _ ?_
  refine Fw.region ?_
  refine Fw.s (Fw.val_move rfl) rfl ?_
  refine Fw.call cf56 rfl rfl (there_any _ B q N E u Ae ce (max mn (Ag.cl t)) mg2 ⟨hBq, s3, v3, i3, d3, pp3, A3, c3, sp3, l3, r3, HR, HP, hpc3, HE, ho3⟩) ?_
  rintro e_ w13 ⟨rfl, H2, hc⟩
  refine ⟨_, rfl, ?_⟩
  replace Hx := Hx.chg hc (by omega)
  replace Hgt := Hgt.chg hc (by omega)
  replace HC := HC.trans hc (fun k hk_ e => by first | exact e | (left; exact e) | (right; exact e) | (exfalso; omega))
  clear hc
  clear HR HP HE
  obtain ⟨_, s4, v4, i4, d4, pp4, A4, c4, sp4, l4, r4, HR, HP, hpc4, HE, ho4⟩ := H2
  have hql4 := HR.lt
  refine Fw.nil ?_
  refine Fw.X_blockN ?_
  refine hK11 _ _ (Fw.FC.sub (f' := []) .nil ?_)
  refine Fw.seq fun _ hK17 => ?_
  refine Fw.region ?_
  refine Fw.s (Fw.val_assign rfl) rfl ?_
  refine Fw.s (Fw.val_assign rfl) rfl ?_
  refine Fw.nil ?_
  refine hK17 _ _ ?_
  refine Fw.ret ?_
  refine Fw.ret_ [.tmp 6, .tmp 7] [_, _] Try.results36 (.tmp rfl (.tmp rfl .nil)) ?_
  rw [if_pos hadm, if_pos hadm, ← hmg2]
  exact ⟨_, _, rfl, ⟨hBq, s4, v4, i4, d4, pp4, A4, c4, sp4, l4, r4, HR, HP, hpc4, HE, ho4⟩, HC⟩
  rintro k1
  refine Fw.s (Fw.val_assign rfl) rfl ?_
  refine Fw.nil ?_
  refine hK13 _ _ ?_
  refine Fw.condF rfl ?_
  refine Fw.seq fun _ hK18 => ?_
  refine Fw.region ?_
  refine Fw.s2 (Fw.val_bin rfl rfl Fw.b_eql) rfl ?_ ?_
  rintro k2
  refine Fw.s (Fw.val_assign rfl) rfl ?_
  refine Fw.nil ?_
  refine hK18 _ _ ?_
  refine Fw.condT rfl ?_
  refine Fw.seq fun _ hK20 => ?_
  refine Fw.region ?_
  refine Fw.s (Fw.val_move rfl) rfl ?_
  refine Fw.s (Fw.val_move rfl) rfl ?_
  refine Fw.s (Fw.val_nil rfl) rfl ?_
  refine Fw.s (Fw.val_fieldAddr fl50_2 rfl rfl) rfl ?_
  refine Fw.store sz3 rfl rfl HR rfl rfl rfl ?_
  intro w14 N_ hc
  replace HP := HP.chg hc (Fw.RdT.ne_ HP HR (by decide))
  replace HE := HE.below (hc.below (B := B) (fun k e => by omega) HE.1)
  replace Hx := Hx.chg hc (by omega)
  replace Hgt := Hgt.chg hc (by omega)
  replace HC := HC.trans hc (fun k hk_ e => by first | exact e | (left; exact e) | (right; exact e) | (exfalso; omega))
  clear hc
  clear HR
  have HR := N_
  clear N_
  replace HR : Blk w14 q 50 #[.int .i64 (N : Int), .slice Ae E.length ce, .int .i64 mg2.u, .int .i64 mg2.o.u, .int .i64 mg2.o.e, .int .i64 mg2.o.k, .int .i64 mg2.o.i, .int .i64 mg2.o.n, .int .i64 1, .int .i64 (v2 : Int), .int .i64 i2, .int .i64 (d2 : Int), .slice A2 pp2.length c2, .int .i64 sp2, .int .i64 (max mn (Ag.cl t)), .int .i64 l2.u, .int .i64 l2.q, .int .i64 l2.s, .int .i64 l2.n, .int .i64 l2.e, .int .i64 r2] := HR
  refine Fw.s (Fw.val_nil rfl) rfl ?_
  refine Fw.s (Fw.val_fieldAddr fl50_4 rfl rfl) rfl ?_
  refine Fw.store sz2 rfl rfl HR rfl rfl rfl ?_
  intro w15 N_ hc
  replace HP := HP.chg hc (Fw.RdT.ne_ HP HR (by decide))
  replace HE := HE.below (hc.below (B := B) (fun k e => by omega) HE.1)
  replace Hx := Hx.chg hc (by omega)
  replace Hgt := Hgt.chg hc (by omega)
  replace HC := HC.trans hc (fun k hk_ e => by first | exact e | (left; exact e) | (right; exact e) | (exfalso; omega))
  clear hc
  clear HR
  have HR := N_
  clear N_
  replace HR : Blk w15 q 50 #[.int .i64 (N : Int), .slice Ae E.length ce, .int .i64 mg2.u, .int .i64 mg2.o.u, .int .i64 mg2.o.e, .int .i64 mg2.o.k, .int .i64 mg2.o.i, .int .i64 mg2.o.n, .int .i64 1, .int .i64 (v2 : Int), .int .i64 0, .int .i64 (d2 : Int), .slice A2 pp2.length c2, .int .i64 sp2, .int .i64 (max mn (Ag.cl t)), .int .i64 l2.u, .int .i64 l2.q, .int .i64 l2.s, .int .i64 l2.n, .int .i64 l2.e, .int .i64 r2] := HR
  refine Fw.nil ?_
  refine hK20 _ _ (Fw.FC.sub (f' := [(0, _)]) (.cons rfl .nil) ?_)
  refine Fw.region ?_
  refine Fw.s (Fw.val_move rfl) rfl ?_
  refine Fw.s (Fw.val_move rfl) rfl ?_
  refine Fw.s (Fw.val_nil rfl) rfl ?_
  refine Fw.s (Fw.val_fieldAddr fl50_3 rfl rfl) rfl ?_
  refine Fw.ld sc3 rfl (HR.cell 9) rfl ?_
  refine Fw.call cf55 rfl rfl (lead_any _ B q N E u Ae ce (max mn (Ag.cl t)) mg2 ⟨hBq, 1, v2, 0, d2, pp2, A2, c2, sp2, l2, r2, HR, HP, hpc2, HE, ho2⟩ v2 ho2.hv) ?_
  rintro e_ w16 ⟨rfl, H2, hc⟩
  refine ⟨_, rfl, ?_⟩
  replace Hx := Hx.chg hc (by omega)
  replace Hgt := Hgt.chg hc (by omega)
  replace HC := HC.trans hc (fun k hk_ e => by first | exact e | (left; exact e) | (right; exact e) | (exfalso; omega))
  clear hc
  clear HR HP HE
  obtain ⟨_, s3, v3, i3, d3, pp3, A3, c3, sp3, l3, r3, HR, HP, hpc3, HE, ho3⟩ := H2
  have hql3 := HR.lt
  refine Fw.nil ?_
  refine Fw.X_blockN ?_
  refine hK11 _ _ (Fw.FC.sub (f' := []) .nil ?_)
  refine Fw.seq fun _ hK21 => ?_
  refine Fw.region ?_
  refine Fw.s (Fw.val_assign rfl) rfl ?_
  refine Fw.s (Fw.val_assign rfl) rfl ?_
  refine Fw.nil ?_
  refine hK21 _ _ ?_
  refine Fw.ret ?_
  refine Fw.ret_ [.tmp 6, .tmp 7] [_, _] Try.results36 (.tmp rfl (.tmp rfl .nil)) ?_
  rw [if_pos hadm, if_pos hadm, ← hmg2]
  exact ⟨_, _, rfl, ⟨hBq, s3, v3, i3, d3, pp3, A3, c3, sp3, l3, r3, HR, HP, hpc3, HE, ho3⟩, HC⟩
  rintro k2
  refine Fw.s (Fw.val_assign rfl) rfl ?_
  refine Fw.nil ?_
  refine hK18 _ _ ?_
  refine Fw.condF rfl ?_
  refine Fw.seq fun _ hK22 => ?_
  refine Fw.region ?_
  refine Fw.s (Fw.Val.T (Fw.val_bin rfl rfl Fw.b_eql) (by omega)) rfl ?_
  refine Fw.s (Fw.val_assign rfl) rfl ?_
  refine Fw.nil ?_
  refine hK22 _ _ (Fw.FC.sub (f' := [(74, _), (4, _), (0, _)]) (.cons rfl (.cons rfl (.cons rfl .nil))) ?_)
  refine Fw.condT rfl ?_
  refine Fw.seq fun _ hK23 => ?_
  refine Fw.region ?_
  refine Fw.s (Fw.val_move rfl) rfl ?_
  refine Fw.s (Fw.val_move rfl) rfl ?_
  refine Fw.s (Fw.val_nil rfl) rfl ?_
  refine Fw.s (Fw.val_fieldAddr fl50_2 rfl rfl) rfl ?_
  refine Fw.store sz3 rfl rfl HR rfl rfl rfl ?_
  intro w17 N_ hc
  replace HP := HP.chg hc (Fw.RdT.ne_ HP HR (by decide))
  replace HE := HE.below (hc.below (B := B) (fun k e => by omega) HE.1)
  replace Hx := Hx.chg hc (by omega)
  replace Hgt := Hgt.chg hc (by omega)
  replace HC := HC.trans hc (fun k hk_ e => by first | exact e | (left; exact e) | (right; exact e) | (exfalso; omega))
  clear hc
  clear HR
  have HR := N_
  clear N_
  replace HR : Blk w17 q 50 #[.int .i64 (N : Int), .slice Ae E.length ce, .int .i64 mg2.u, .int .i64 mg2.o.u, .int .i64 mg2.o.e, .int .i64 mg2.o.k, .int .i64 mg2.o.i, .int .i64 mg2.o.n, .int .i64 1, .int .i64 (v2 : Int), .int .i64 i2, .int .i64 (d2 : Int), .slice A2 pp2.length c2, .int .i64 sp2, .int .i64 (max mn (Ag.cl t)), .int .i64 l2.u, .int .i64 l2.q, .int .i64 l2.s, .int .i64 l2.n, .int .i64 l2.e, .int .i64 r2] := HR
  refine Fw.s (Fw.val_nil rfl) rfl ?_
  refine Fw.s (Fw.val_fieldAddr fl50_4 rfl rfl) rfl ?_
  refine Fw.store sz2 rfl rfl HR rfl rfl rfl ?_
  intro w18 N_ hc
  replace HP := HP.chg hc (Fw.RdT.ne_ HP HR (by decide))
  replace HE := HE.below (hc.below (B := B) (fun k e => by omega) HE.1)
  replace Hx := Hx.chg hc (by omega)
  replace Hgt := Hgt.chg hc (by omega)
  replace HC := HC.trans hc (fun k hk_ e => by first | exact e | (left; exact e) | (right; exact e) | (exfalso; omega))
  clear hc
  clear HR
  have HR := N_
  clear N_
  replace HR : Blk w18 q 50 #[.int .i64 (N : Int), .slice Ae E.length ce, .int .i64 mg2.u, .int .i64 mg2.o.u, .int .i64 mg2.o.e, .int .i64 mg2.o.k, .int .i64 mg2.o.i, .int .i64 mg2.o.n, .int .i64 1, .int .i64 (v2 : Int), .int .i64 0, .int .i64 (d2 : Int), .slice A2 pp2.length c2, .int .i64 sp2, .int .i64 (max mn (Ag.cl t)), .int .i64 l2.u, .int .i64 l2.q, .int .i64 l2.s, .int .i64 l2.n, .int .i64 l2.e, .int .i64 r2] := HR
  refine Fw.nil ?_
  refine hK23 _ _ (Fw.FC.sub (f' := [(4, _), (0, _)]) (.cons rfl (.cons rfl .nil)) ?_)
  refine Fw.region ?_
  refine Fw.s (Fw.val_move rfl) rfl ?_
  refine Fw.s (Fw.val_fieldAddr fl43_4 rfl rfl) rfl ?_
  refine Fw.ld sc3 rfl (Hx.cell 4) rfl ?_
  refine Fw.call cf55 rfl rfl ((by have := lead_any _ B q N E u Ae ce (max mn (Ag.cl t)) mg2 ⟨hBq, 1, v2, 0, d2, pp2, A2, c2, sp2, l2, r2, HR, HP, hpc2, HE, ho2⟩ o.n.toNat hon; rw [hon2] at this; exact this)) ?_
  rintro e_ w19 ⟨rfl, H2, hc⟩
  refine ⟨_, rfl, ?_⟩
  replace Hx := Hx.chg hc (by omega)
  replace Hgt := Hgt.chg hc (by omega)
  replace HC := HC.trans hc (fun k hk_ e => by first | exact e | (left; exact e) | (right; exact e) | (exfalso; omega))
  clear hc
  clear HR HP HE
  obtain ⟨_, s3, v3, i3, d3, pp3, A3, c3, sp3, l3, r3, HR, HP, hpc3, HE, ho3⟩ := H2
  have hql3 := HR.lt
  refine Fw.nil ?_
  refine Fw.X_blockN ?_
  refine hK11 _ _ ?_
  refine Fw.seq fun _ hK24 => ?_
  refine Fw.region ?_
  refine Fw.s (Fw.val_assign rfl) rfl ?_
  refine Fw.s (Fw.val_assign rfl) rfl ?_
  refine Fw.nil ?_
  refine hK24 _ _ ?_
  refine Fw.ret ?_
  refine Fw.ret_ [.tmp 6, .tmp 7] [_, _] Try.results36 (.tmp rfl (.tmp rfl .nil)) ?_
  rw [if_pos hadm, if_pos hadm, ← hmg2]
  exact ⟨_, _, rfl, ⟨hBq, s3, v3, i3, d3, pp3, A3, c3, sp3, l3, r3, HR, HP, hpc3, HE, ho3⟩, HC⟩
  rintro hacc
  refine Fw.s (Fw.val_not rfl) rfl ?_
  refine Fw.s (Fw.val_move rfl) rfl ?_
  refine Fw.gF (d := 34) rfl rfl rfl rfl ?_
  refine Fw.gF (d := 34) rfl rfl rfl rfl ?_
  refine Fw.gF (d := 34) rfl rfl rfl rfl ?_
  refine Fw.gF (d := 34) rfl rfl rfl rfl ?_
  refine Fw.gF (d := 34) rfl rfl rfl rfl ?_
  refine Fw.s (Fw.val_pickT rfl rfl) rfl ?_
  refine Fw.nil ?_
  refine hK8 _ _ (Fw.FC.sub (f' := [(40, _), (9, _), (4, _), (0, _)]) (.cons rfl (.cons rfl (.cons rfl (.cons rfl .nil)))) ?_)
  refine Fw.condT rfl ?_
  refine Fw.seq fun _ hK25 => ?_
  refine Fw.region ?_
  refine Fw.s (Fw.val_move rfl) rfl ?_
  refine Fw.s (Fw.val_assign rfl) rfl ?_
  refine Fw.s (Fw.val_assign rfl) rfl ?_
  refine Fw.nil ?_
  refine hK25 _ _ ?_
  refine Fw.ret ?_
  refine Fw.X_ret ?_
  refine Fw.ret_ [.tmp 6, .tmp 7] [_, _] Try.results36 (.tmp rfl (.tmp rfl .nil)) ?_
  rw [if_pos hadm, if_pos hadm, ← hmg2]
  exact ⟨_, _, rfl, ⟨hBq, s2, v2, i2, d2, pp2, A2, c2, sp2, l2, r2, HR, HP, hpc2, HE, ho2⟩, HC⟩
  refine Fw.hOp 10 rfl ?_
  refine Fw.alloc ze45 rfl ?_
  intro w20 ggt eggt Hgt hb
  have rggt : w3.heap.size ≤ ggt := by have := HS.size; omega
  have n_q_ggt : q < ggt := by have := HR.lt; omega
  have n_gx_ggt : gx < ggt := by have := Hx.lt; omega
  have lggt : w.heap.size ≤ ggt := by have := HC.size; omega
  replace HR := HR.low hb
  replace HP := HP.low hb
  replace HE := HE.below (hb.mono HE.1)
  replace Hx := Hx.low hb
  replace HS := HS.trans (hb.mono HS.size)
  replace HC := HC.trans (Chg.of_below hb (· = q)) (fun _ _ h => h)
  clear hb
  clear eggt
  refine Fw.hNext HS ?_
  refine Fw.hAll1 5 (by kernel_rfl) ?_
  refine Fw.hOp 5 rfl ?_
  refine Fw.call cf54 rfl rfl (by have := take_any mg o w20; rw [← hmg2] at this; exact this) ?_
  rintro e_ w21 ⟨rfl, hb⟩
  refine ⟨_, rfl, ?_⟩
  replace HR := HR.low hb
  replace HP := HP.low hb
  replace HE := HE.below (hb.mono HE.1)
  replace Hx := Hx.low hb
  replace HS := HS.trans (hb.mono HS.size)
  replace Hgt := Hgt.low hb
  replace HC := HC.trans (Chg.of_below hb (· = q)) (fun _ _ h => h)
  clear hb
  refine Fw.hNext HS ?_
  refine Fw.hTk 6 rfl rfl (Fw.yV (Fw.val_move rfl)) rfl ?_
  refine Fw.hTk 7 rfl rfl (Fw.yV (Fw.val_extract rfl rfl)) rfl ?_
  refine Fw.hTk 8 rfl rfl (Fw.yV (Fw.val_extract rfl rfl)) rfl ?_
  refine Fw.hTk 9 rfl rfl (Fw.yV (Fw.val_extract rfl rfl)) rfl ?_
  refine Fw.hAll1 11 (by kernel_rfl) ?_
  refine Fw.hOp 11 rfl ?_
  refine Fw.storeW sz45 rfl rfl Hgt rfl rfl (by exact Fw.oneCells rfl) ?_
  intro w22 N_ hc
  replace HR := HR.chg hc (by omega)
  replace HP := HP.chg hc (Fw.RdT.ne_ HP Hgt (by decide))
  replace HE := HE.below (hc.below (B := B) (fun k e => by omega) HE.1)
  replace Hx := Hx.chg hc (by omega)
  replace HS := HS.trans (hc.below (B := w3.heap.size) (fun k e => by omega) HS.size)
  replace HC := HC.trans hc (fun k hk_ e => by first | exact e | (left; exact e) | (right; exact e) | (exfalso; omega))
  clear hc
  clear Hgt
  have Hgt := N_
  clear N_
  replace Hgt : Blk w22 ggt 45 #[.int .i64 mg2.u, .int .i64 mg2.o.u, .int .i64 mg2.o.e, .int .i64 mg2.o.k, .int .i64 mg2.o.i, .int .i64 mg2.o.n] := Hgt
  refine Fw.hNext HS ?_
  refine Fw.hTk 12 rfl rfl (Fw.yV (Fw.val_assign rfl)) rfl ?_
  refine Fw.hTk 13 rfl rfl (Fw.yV (Fw.val_assign rfl)) rfl ?_
  refine Fw.hDone (by kernel_rfl) ?_
  refine hK5 _ _ (Fw.FC.sub (f' := [(9, _), (8, _), (4, _), (0, _)]) (.cons rfl (.cons rfl (.cons rfl (.cons rfl .nil)))) ?_)
  refine Fw.seq fun _ hK26 => ?_
  refine Fw.region ?_
  refine Fw.s (Fw.val_move rfl) rfl ?_
  refine Fw.ldA ag45 rfl (Fw.rdBlk Hgt) rfl rfl ?_
  refine Fw.s (Fw.val_nil rfl) rfl ?_
  refine Fw.s (Fw.val_fieldAddr fl50_1 rfl rfl) rfl ?_
  refine Fw.storeP sz45 rfl rfl HR rfl rfl (by exact Fw.oneCells rfl) ?_
  intro w23 N_ hc
  replace HP := HP.chg hc (Fw.RdT.ne_ HP HR (by decide))
  replace HE := HE.below (hc.below (B := B) (fun k e => by omega) HE.1)
  replace Hx := Hx.chg hc (by omega)
  replace Hgt := Hgt.chg hc (by omega)
  replace HC := HC.trans hc (fun k hk_ e => by first | exact e | (left; exact e) | (right; exact e) | (exfalso; omega))
  clear hc
  clear HR
  have HR := N_
  clear N_
  replace HR : Blk w23 q 50 #[.int .i64 (N : Int), .slice Ae E.length ce, .int .i64 mg2.u, .int .i64 mg2.o.u, .int .i64 mg2.o.e, .int .i64 mg2.o.k, .int .i64 mg2.o.i, .int .i64 mg2.o.n, .int .i64 s2, .int .i64 (v2 : Int), .int .i64 i2, .int .i64 (d2 : Int), .slice A2 pp2.length c2, .int .i64 sp2, .int .i64 (max mn (Ag.cl t)), .int .i64 l2.u, .int .i64 l2.q, .int .i64 l2.s, .int .i64 l2.n, .int .i64 l2.e, .int .i64 r2] := HR
  refine Fw.nil ?_
  refine hK26 _ _ ?_
  refine Fw.seq fun _ hK27 => ?_
  refine Fw.seq fun _ hK28 => ?_
  replace ho2 := ho2.gate hgu2
  refine Fw.region ?_
  refine Fw.s (Fw.val_move rfl) rfl ?_
  refine Fw.b2 ?_ ?_
  rintro hacc
  refine Fw.s (Fw.val_not rfl) rfl ?_
  refine Fw.s (Fw.val_move rfl) rfl ?_
  refine Fw.gT (d := 34) rfl rfl ?_
  refine Fw.s (Fw.val_move rfl) rfl ?_
  refine Fw.gT (d := 34) rfl rfl ?_
  refine Fw.s (Fw.val_nil rfl) rfl ?_
  refine Fw.gT (d := 34) rfl rfl ?_
  refine Fw.s (Fw.val_fieldAddr fl50_2 rfl rfl) rfl ?_
  refine Fw.gT (d := 34) rfl rfl ?_
  refine Fw.ld sc3 rfl (HR.cell 8) rfl ?_
  refine Fw.gT (d := 34) rfl rfl ?_
  refine Fw.s2 (Fw.val_bin rfl rfl Fw.b_eql) rfl ?_ ?_
  rintro h6
  refine Fw.s (Fw.val_pickF rfl rfl) rfl ?_
  refine Fw.nil ?_
  refine hK28 _ _ (Fw.FC.sub (f' := [(40, _), (9, _), (4, _), (0, _)]) (.cons rfl (.cons rfl (.cons rfl (.cons rfl .nil)))) ?_)
  refine Fw.condT rfl ?_
  refine Fw.seq fun _ hK30 => ?_
  refine Fw.region ?_
  refine Fw.s (Fw.val_move rfl) rfl ?_
  refine Fw.s (Fw.val_assign rfl) rfl ?_
  refine Fw.s (Fw.val_assign rfl) rfl ?_
  refine Fw.nil ?_
  refine hK30 _ _ ?_
  refine Fw.ret ?_
  refine Fw.X_ret ?_
  refine Fw.ret_ [.tmp 6, .tmp 7] [_, _] Try.results36 (.tmp rfl (.tmp rfl .nil)) ?_
  rw [if_pos hadm, if_pos hadm, ← hmg2]
  exact ⟨_, _, rfl, ⟨hBq, s2, v2, i2, d2, pp2, A2, c2, sp2, l2, r2, HR, HP, hpc2, HE, ho2⟩, HC⟩
  rintro h6
  refine Fw.s (Fw.val_pickF rfl rfl) rfl ?_
  refine Fw.nil ?_
  refine hK28 _ _ (Fw.FC.sub (f' := [(40, _), (9, _), (4, _), (0, _)]) (.cons rfl (.cons rfl (.cons rfl (.cons rfl .nil)))) ?_)
  refine Fw.condF rfl ?_
  refine Fw.skip ?_
  refine hK27 _ _ ?_
  refine Fw.seq fun _ hK31 => ?_
  refine Fw.seq fun _ hK32 => ?_
  refine Fw.region ?_
  refine Fw.s (Fw.val_fieldAddr fl43_2 rfl rfl) rfl ?_
  refine Fw.ld sc3 rfl (Hx.cell 2) rfl ?_
  refine Fw.nil ?_
  refine hK32 _ _ ?_
  refine Fw.block ?_
  refine Fw.seq fun _ hK33 => ?_
  refine Fw.region ?_
  refine Fw.s2 (Fw.val_bin rfl rfl Fw.b_eql) rfl ?_ ?_
  rintro k1
  refine Fw.s (Fw.val_assign rfl) rfl ?_
  refine Fw.nil ?_
  refine hK33 _ _ ?_
  refine Fw.condT rfl ?_
  refine Fw.seq fun _ hK35 => ?_
  refine Fw.regionHS (Chg (· = q) w23) (by kernel_rfl) (Chg.of_below (Fw.drew_low w23) _) ?_
  have R_HR := HR
  have R_Hx := Hx
  have R_Hgt := Hgt
  intro w24 hb HS
  replace HR := HR.low hb
  replace HP := HP.low hb
  replace HE := HE.below (hb.mono HE.1)
  replace Hx := Hx.low hb
  replace Hgt := Hgt.low hb
  replace HC := HC.trans (Chg.of_below hb (· = q)) (fun _ _ h => h)
  clear hb
  refine Fw.hTk 0 rfl rfl (Fw.yV (Fw.val_move rfl)) rfl ?_
  refine Fw.hTk 1 rfl rfl (Fw.yV (Fw.val_move rfl)) rfl ?_
  refine Fw.hTk 2 rfl rfl (Fw.yV (Fw.val_fieldAddr fl43_3 rfl rfl)) rfl ?_
  refine Fw.hTk 3 rfl rfl (Fw.yV (Fw.hLdC sc2 rfl (R_Hx.cell 3) (by show ¬ gx = q; omega))) rfl ?_
  refine Fw.hTk 4 rfl rfl (Fw.yV (Fw.val_nil rfl)) rfl ?_
  refine Fw.hTk 5 rfl rfl (Fw.yV (Fw.val_fieldAddr fl50_2 rfl rfl)) rfl ?_
  refine Fw.hAll1 6 (by kernel_rfl) ?_
  refine Fw.hOp 6 rfl ?_
  refine Fw.store sz3 rfl rfl HR rfl rfl rfl ?_
  intro w25 N_ hc
  replace HP := HP.chg hc (Fw.RdT.ne_ HP HR (by decide))
  replace HE := HE.below (hc.below (B := B) (fun k e => by omega) HE.1)
  replace Hx := Hx.chg hc (by omega)
  replace Hgt := Hgt.chg hc (by omega)
  replace HS := HS.trans hc (fun _ _ h => h)
  replace HC := HC.trans hc (fun k hk_ e => by first | exact e | (left; exact e) | (right; exact e) | (exfalso; omega))
  clear hc
  clear HR
  have HR := N_
  clear N_
  replace HR : Blk w25 q 50 #[.int .i64 (N : Int), .slice Ae E.length ce, .int .i64 mg2.u, .int .i64 mg2.o.u, .int .i64 mg2.o.e, .int .i64 mg2.o.k, .int .i64 mg2.o.i, .int .i64 mg2.o.n, .int .i64 3, .int .i64 (v2 : Int), .int .i64 i2, .int .i64 (d2 : Int), .slice A2 pp2.length c2, .int .i64 sp2, .int .i64 (max mn (Ag.cl t)), .int .i64 l2.u, .int .i64 l2.q, .int .i64 l2.s, .int .i64 l2.n, .int .i64 l2.e, .int .i64 r2] := HR
  refine Fw.hNext HS ?_
  refine Fw.hTk 7 rfl rfl (Fw.yV (Fw.val_nil rfl)) rfl ?_
  refine Fw.hTk 8 rfl rfl (Fw.yV (Fw.val_fieldAddr fl50_4 rfl rfl)) rfl ?_
  refine Fw.hAll1 9 (by kernel_rfl) ?_
  refine Fw.hOp 9 rfl ?_
  refine Fw.store sz2 rfl rfl HR rfl rfl rfl ?_
  intro w26 N_ hc
  replace HP := HP.chg hc (Fw.RdT.ne_ HP HR (by decide))
  replace HE := HE.below (hc.below (B := B) (fun k e => by omega) HE.1)
  replace Hx := Hx.chg hc (by omega)
  replace Hgt := Hgt.chg hc (by omega)
  replace HS := HS.trans hc (fun _ _ h => h)
  replace HC := HC.trans hc (fun k hk_ e => by first | exact e | (left; exact e) | (right; exact e) | (exfalso; omega))
  clear hc
  clear HR
  have HR := N_
  clear N_
  replace HR : Blk w26 q 50 #[.int .i64 (N : Int), .slice Ae E.length ce, .int .i64 mg2.u, .int .i64 mg2.o.u, .int .i64 mg2.o.e, .int .i64 mg2.o.k, .int .i64 mg2.o.i, .int .i64 mg2.o.n, .int .i64 3, .int .i64 (v2 : Int), .int .i64 o.i, .int .i64 (d2 : Int), .slice A2 pp2.length c2, .int .i64 sp2, .int .i64 (max mn (Ag.cl t)), .int .i64 l2.u, .int .i64 l2.q, .int .i64 l2.s, .int .i64 l2.n, .int .i64 l2.e, .int .i64 r2] := HR
  refine Fw.hNext HS ?_
  refine Fw.hDone (by kernel_rfl) ?_
  refine hK35 _ _ (Fw.FC.sub (f' := [(4, _), (0, _)]) (.cons rfl (.cons rfl .nil)) ?_)
  refine Fw.seq fun _ hK36 => ?_
  refine Fw.region ?_
  refine Fw.s (Fw.val_move rfl) rfl ?_
  refine Fw.s (Fw.val_fieldAddr fl43_4 rfl rfl) rfl ?_
  refine Fw.ld sc3 rfl (Hx.cell 4) rfl ?_
  refine Fw.call cf55 rfl rfl ((by have := lead_any _ B q N E u Ae ce (max mn (Ag.cl t)) mg2 ⟨hBq, 3, v2, o.i, d2, pp2, A2, c2, sp2, l2, r2, HR, HP, hpc2, HE, ho2⟩ o.n.toNat hon; rw [hon2] at this; exact this)) ?_
  rintro e_ w27 ⟨rfl, H2, hc⟩
  refine ⟨_, rfl, ?_⟩
  replace Hx := Hx.chg hc (by omega)
  replace Hgt := Hgt.chg hc (by omega)
  replace HC := HC.trans hc (fun k hk_ e => by first | exact e | (left; exact e) | (right; exact e) | (exfalso; omega))
  clear hc
  clear HR HP HE
  obtain ⟨_, s3, v3, i3, d3, pp3, A3, c3, sp3, l3, r3, HR, HP, hpc3, HE, ho3⟩ := H2
  have hql3 := HR.lt
  refine Fw.nil ?_
  refine hK36 _ _ ?_
  refine Fw.region ?_
  refine Fw.s (Fw.val_move rfl) rfl ?_
  refine Fw.call cf56 rfl rfl (there_any _ B q N E u Ae ce (max mn (Ag.cl t)) mg2 ⟨hBq, s3, v3, i3, d3, pp3, A3, c3, sp3, l3, r3, HR, HP, hpc3, HE, ho3⟩) ?_
  rintro e_ w28 ⟨rfl, H2, hc⟩
  refine ⟨_, rfl, ?_⟩
  replace Hx := Hx.chg hc (by omega)
  replace Hgt := Hgt.chg hc (by omega)
  replace HC := HC.trans hc (fun k hk_ e => by first | exact e | (left; exact e) | (right; exact e) | (exfalso; omega))
  clear hc
  clear HR HP HE
  obtain ⟨_, s4, v4, i4, d4, pp4, A4, c4, sp4, l4, r4, HR, HP, hpc4, HE, ho4⟩ := H2
  have hql4 := HR.lt
  refine Fw.nil ?_
  refine Fw.X_blockN ?_
  refine hK31 _ _ (Fw.FC.sub (f' := []) .nil ?_)
  refine Fw.seq fun _ hK37 => ?_
  refine Fw.region ?_
  refine Fw.s (Fw.val_assign rfl) rfl ?_
  refine Fw.s (Fw.val_assign rfl) rfl ?_
  refine Fw.nil ?_
  refine hK37 _ _ ?_
  refine Fw.ret ?_
  refine Fw.ret_ [.tmp 6, .tmp 7] [_, _] Try.results36 (.tmp rfl (.tmp rfl .nil)) ?_
  rw [if_pos hadm, if_pos hadm, ← hmg2]
  exact ⟨_, _, rfl, ⟨hBq, s4, v4, i4, d4, pp4, A4, c4, sp4, l4, r4, HR, HP, hpc4, HE, ho4⟩, HC⟩
  rintro k1
  refine Fw.s (Fw.val_assign rfl) rfl ?_
  refine Fw.nil ?_
  refine hK33 _ _ ?_
  refine Fw.condF rfl ?_
  refine Fw.seq fun _ hK38 => ?_
  refine Fw.region ?_
  refine Fw.s2 (Fw.val_bin rfl rfl Fw.b_eql) rfl ?_ ?_
  rintro k2
  refine Fw.s (Fw.val_assign rfl) rfl ?_
  refine Fw.nil ?_
  refine hK38 _ _ ?_
  refine Fw.condT rfl ?_
  refine Fw.seq fun _ hK40 => ?_
  refine Fw.region ?_
  refine Fw.s (Fw.val_move rfl) rfl ?_
  refine Fw.s (Fw.val_move rfl) rfl ?_
  refine Fw.s (Fw.val_nil rfl) rfl ?_
  refine Fw.s (Fw.val_fieldAddr fl50_2 rfl rfl) rfl ?_
  refine Fw.store sz3 rfl rfl HR rfl rfl rfl ?_
  intro w29 N_ hc
  replace HP := HP.chg hc (Fw.RdT.ne_ HP HR (by decide))
  replace HE := HE.below (hc.below (B := B) (fun k e => by omega) HE.1)
  replace Hx := Hx.chg hc (by omega)
  replace Hgt := Hgt.chg hc (by omega)
  replace HC := HC.trans hc (fun k hk_ e => by first | exact e | (left; exact e) | (right; exact e) | (exfalso; omega))
  clear hc
  clear HR
  have HR := N_
  clear N_
  replace HR : Blk w29 q 50 #[.int .i64 (N : Int), .slice Ae E.length ce, .int .i64 mg2.u, .int .i64 mg2.o.u, .int .i64 mg2.o.e, .int .i64 mg2.o.k, .int .i64 mg2.o.i, .int .i64 mg2.o.n, .int .i64 1, .int .i64 (v2 : Int), .int .i64 i2, .int .i64 (d2 : Int), .slice A2 pp2.length c2, .int .i64 sp2, .int .i64 (max mn (Ag.cl t)), .int .i64 l2.u, .int .i64 l2.q, .int .i64 l2.s, .int .i64 l2.n, .int .i64 l2.e, .int .i64 r2] := HR
  refine Fw.s (Fw.val_nil rfl) rfl ?_
  refine Fw.s (Fw.val_fieldAddr fl50_4 rfl rfl) rfl ?_
  refine Fw.store sz2 rfl rfl HR rfl rfl rfl ?_
  intro w30 N_ hc
  replace HP := HP.chg hc (Fw.RdT.ne_ HP HR (by decide))
  replace HE := HE.below (hc.below (B := B) (fun k e => by omega) HE.1)
  replace Hx := Hx.chg hc (by omega)
  replace Hgt := Hgt.chg hc (by omega)
  replace HC := HC.trans hc (fun k hk_ e => by first | exact e | (left; exact e) | (right; exact e) | (exfalso; omega))
  clear hc
  clear HR
  have HR := N_
  clear N_
  replace HR : Blk w30 q 50 #[.int .i64 (N : Int), .slice Ae E.length ce, .int .i64 mg2.u, .int .i64 mg2.o.u, .int .i64 mg2.o.e, .int .i64 mg2.o.k, .int .i64 mg2.o.i, .int .i64 mg2.o.n, .int .i64 1, .int .i64 (v2 : Int), .int .i64 0, .int .i64 (d2 : Int), .slice A2 pp2.length c2, .int .i64 sp2, .int .i64 (max mn (Ag.cl t)), .int .i64 l2.u, .int .i64 l2.q, .int .i64 l2.s, .int .i64 l2.n, .int .i64 l2.e, .int .i64 r2] := HR
  refine Fw.nil ?_
  refine hK40 _ _ (Fw.FC.sub (f' := [(0, _)]) (.cons rfl .nil) ?_)
  refine Fw.region ?_
  refine Fw.s (Fw.val_move rfl) rfl ?_
  refine Fw.s (Fw.val_move rfl) rfl ?_
  refine Fw.s (Fw.val_nil rfl) rfl ?_
  refine Fw.s (Fw.val_fieldAddr fl50_3 rfl rfl) rfl ?_
  refine Fw.ld sc3 rfl (HR.cell 9) rfl ?_
  refine Fw.call cf55 rfl rfl (lead_any _ B q N E u Ae ce (max mn (Ag.cl t)) mg2 ⟨hBq, 1, v2, 0, d2, pp2, A2, c2, sp2, l2, r2, HR, HP, hpc2, HE, ho2⟩ v2 ho2.hv) ?_
  rintro e_ w31 ⟨rfl, H2, hc⟩
  refine ⟨_, rfl, ?_⟩
  replace Hx := Hx.chg hc (by omega)
  replace Hgt := Hgt.chg hc (by omega)
  replace HC := HC.trans hc (fun k hk_ e => by first | exact e | (left; exact e) | (right; exact e) | (exfalso; omega))
  clear hc
  clear HR HP HE
  obtain ⟨_, s3, v3, i3, d3, pp3, A3, c3, sp3, l3, r3, HR, HP, hpc3, HE, ho3⟩ := H2
  have hql3 := HR.lt
  refine Fw.nil ?_
  refine Fw.X_blockN ?_
  refine hK31 _ _ (Fw.FC.sub (f' := []) .nil ?_)
  refine Fw.seq fun _ hK41 => ?_
  refine Fw.region ?_
  refine Fw.s (Fw.val_assign rfl) rfl ?_
  refine Fw.s (Fw.val_assign rfl) rfl ?_
  refine Fw.nil ?_
  refine hK41 _ _ ?_
  refine Fw.ret ?_
  refine Fw.ret_ [.tmp 6, .tmp 7] [_, _] Try.results36 (.tmp rfl (.tmp rfl .nil)) ?_
  rw [if_pos hadm, if_pos hadm, ← hmg2]
  exact ⟨_, _, rfl, ⟨hBq, s3, v3, i3, d3, pp3, A3, c3, sp3, l3, r3, HR, HP, hpc3, HE, ho3⟩, HC⟩
  rintro k2
  refine Fw.s (Fw.val_assign rfl) rfl ?_
  refine Fw.nil ?_
  refine hK38 _ _ ?_
  refine Fw.condF rfl ?_
  refine Fw.seq fun _ hK42 => ?_
  refine Fw.region ?_
  refine Fw.s (Fw.Val.T (Fw.val_bin rfl rfl Fw.b_eql) (by omega)) rfl ?_
  refine Fw.s (Fw.val_assign rfl) rfl ?_
  refine Fw.nil ?_
  refine hK42 _ _ (Fw.FC.sub (f' := [(74, _), (4, _), (0, _)]) (.cons rfl (.cons rfl (.cons rfl .nil))) ?_)
  refine Fw.condT rfl ?_
  refine Fw.seq fun _ hK43 => ?_
  refine Fw.region ?_
  refine Fw.s (Fw.val_move rfl) rfl ?_
  refine Fw.s (Fw.val_move rfl) rfl ?_
  refine Fw.s (Fw.val_nil rfl) rfl ?_
  refine Fw.s (Fw.val_fieldAddr fl50_2 rfl rfl) rfl ?_
  refine Fw.store sz3 rfl rfl HR rfl rfl rfl ?_
  intro w32 N_ hc
  replace HP := HP.chg hc (Fw.RdT.ne_ HP HR (by decide))
  replace HE := HE.below (hc.below (B := B) (fun k e => by omega) HE.1)
  replace Hx := Hx.chg hc (by omega)
  replace Hgt := Hgt.chg hc (by omega)
  replace HC := HC.trans hc (fun k hk_ e => by first | exact e | (left; exact e) | (right; exact e) | (exfalso; omega))
  clear hc
  clear HR
  have HR := N_
  clear N_
  replace HR : Blk w32 q 50 #[.int .i64 (N : Int), .slice Ae E.length ce, .int .i64 mg2.u, .int .i64 mg2.o.u, .int .i64 mg2.o.e, .int .i64 mg2.o.k, .int .i64 mg2.o.i, .int .i64 mg2.o.n, .int .i64 1, .int .i64 (v2 : Int), .int .i64 i2, .int .i64 (d2 : Int), .slice A2 pp2.length c2, .int .i64 sp2, .int .i64 (max mn (Ag.cl t)), .int .i64 l2.u, .int .i64 l2.q, .int .i64 l2.s, .int .i64 l2.n, .int .i64 l2.e, .int .i64 r2] := HR
  refine Fw.s (Fw.val_nil rfl) rfl ?_
  refine Fw.s (Fw.val_fieldAddr fl50_4 rfl rfl) rfl ?_
  refine Fw.store sz2 rfl rfl HR rfl rfl rfl ?_
  intro w33 N_ hc
  replace HP := HP.chg hc (Fw.RdT.ne_ HP HR (by decide))
  replace HE := HE.below (hc.below (B := B) (fun k e => by omega) HE.1)
  replace Hx := Hx.chg hc (by omega)
  replace Hgt := Hgt.chg hc (by omega)
  replace HC := HC.trans hc (fun k hk_ e => by first | exact e | (left; exact e) | (right; exact e) | (exfalso; omega))
  clear hc
  clear HR
  have HR := N_
  clear N_
  replace HR : Blk w33 q 50 #[.int .i64 (N : Int), .slice Ae E.length ce, .int .i64 mg2.u, .int .i64 mg2.o.u, .int .i64 mg2.o.e, .int .i64 mg2.o.k, .int .i64 mg2.o.i, .int .i64 mg2.o.n, .int .i64 1, .int .i64 (v2 : Int), .int .i64 0, .int .i64 (d2 : Int), .slice A2 pp2.length c2, .int .i64 sp2, .int .i64 (max mn (Ag.cl t)), .int .i64 l2.u, .int .i64 l2.q, .int .i64 l2.s, .int .i64 l2.n, .int .i64 l2.e, .int .i64 r2] := HR
  refine Fw.nil ?_
  refine hK43 _ _ (Fw.FC.sub (f' := [(4, _), (0, _)]) (.cons rfl (.cons rfl .nil)) ?_)
  refine Fw.region ?_
  refine Fw.s (Fw.val_move rfl) rfl ?_
  refine Fw.s (Fw.val_fieldAddr fl43_4 rfl rfl) rfl ?_
  refine Fw.ld sc3 rfl (Hx.cell 4) rfl ?_
  refine Fw.call cf55 rfl rfl ((by have := lead_any _ B q N E u Ae ce (max mn (Ag.cl t)) mg2 ⟨hBq, 1, v2, 0, d2, pp2, A2, c2, sp2, l2, r2, HR, HP, hpc2, HE, ho2⟩ o.n.toNat hon; rw [hon2] at this; exact this)) ?_
  rintro e_ w34 ⟨rfl, H2, hc⟩
  refine ⟨_, rfl, ?_⟩
  replace Hx := Hx.chg hc (by omega)
  replace Hgt := Hgt.chg hc (by omega)
  replace HC := HC.trans hc (fun k hk_ e => by first | exact e | (left; exact e) | (right; exact e) | (exfalso; omega))
  clear hc
  clear HR HP HE
  obtain ⟨_, s3, v3, i3, d3, pp3, A3, c3, sp3, l3, r3, HR, HP, hpc3, HE, ho3⟩ := H2
  have hql3 := HR.lt
  refine Fw.nil ?_
  refine Fw.X_blockN ?_
  refine hK31 _ _ ?_
  refine Fw.seq fun _ hK44 => ?_
  refine Fw.region ?_
  refine Fw.s (Fw.val_assign rfl) rfl ?_
  refine Fw.s (Fw.val_assign rfl) rfl ?_
  refine Fw.nil ?_
  refine hK44 _ _ ?_
  refine Fw.ret ?_
  refine Fw.ret_ [.tmp 6, .tmp 7] [_, _] Try.results36 (.tmp rfl (.tmp rfl .nil)) ?_
  rw [if_pos hadm, if_pos hadm, ← hmg2]
  exact ⟨_, _, rfl, ⟨hBq, s3, v3, i3, d3, pp3, A3, c3, sp3, l3, r3, HR, HP, hpc3, HE, ho3⟩, HC⟩
  rintro hacc
  refine Fw.s (Fw.val_not rfl) rfl ?_
  refine Fw.s (Fw.val_move rfl) rfl ?_
  refine Fw.gF (d := 34) rfl rfl rfl rfl ?_
  refine Fw.gF (d := 34) rfl rfl rfl rfl ?_
  refine Fw.gF (d := 34) rfl rfl rfl rfl ?_
  refine Fw.gF (d := 34) rfl rfl rfl rfl ?_
  refine Fw.gF (d := 34) rfl rfl rfl rfl ?_
  refine Fw.s (Fw.val_pickT rfl rfl) rfl ?_
  refine Fw.nil ?_
  refine hK28 _ _ (Fw.FC.sub (f' := [(40, _), (9, _), (4, _), (0, _)]) (.cons rfl (.cons rfl (.cons rfl (.cons rfl .nil)))) ?_)
  refine Fw.condT rfl ?_
  refine Fw.seq fun _ hK45 => ?_
  refine Fw.region ?_
  refine Fw.s (Fw.val_move rfl) rfl ?_
  refine Fw.s (Fw.val_assign rfl) rfl ?_
  refine Fw.s (Fw.val_assign rfl) rfl ?_
  refine Fw.nil ?_
  refine hK45 _ _ ?_
  refine Fw.ret ?_
  refine Fw.X_ret ?_
  refine Fw.ret_ [.tmp 6, .tmp 7] [_, _] Try.results36 (.tmp rfl (.tmp rfl .nil)) ?_
  rw [if_pos hadm, if_pos hadm, ← hmg2]
  exact ⟨_, _, rfl, ⟨hBq, s2, v2, i2, d2, pp2, A2, c2, sp2, l2, r2, HR, HP, hpc2, HE, ho2⟩, HC⟩
  rintro hadm
  refine Fw.s (Fw.val_not rfl) rfl ?_
  refine Fw.nil ?_
  refine hK3 _ _ (Fw.FC.sub (f' := [(14, _), (4, _), (0, _), (2, _)]) (.cons rfl (.cons rfl (.cons rfl (.cons rfl .nil)))) ?_)
  refine Fw.condT rfl ?_
  refine Fw.seq fun _ hK46 => ?_
  refine Fw.region ?_
  refine Fw.s (Fw.val_assign rfl) rfl ?_
  refine Fw.s (Fw.val_assign rfl) rfl ?_
  refine Fw.nil ?_
  refine hK46 _ _ ?_
  refine Fw.ret ?_
  refine Fw.X_ret ?_
  refine Fw.ret_ [.tmp 6, .tmp 7] [_, _] Try.results36 (.tmp rfl (.tmp rfl .nil)) ?_
  rw [if_neg (by rw [hadm]; decide), if_neg (by rw [hadm]; decide)]
  exact ⟨_, _, rfl, ⟨hBq, s, v, i, d, pp, A, c, sp, l, r, HR, HP, hpc, HE, ho⟩, HC⟩

set_option maxRecDepth 100000 in
set_option maxHeartbeats 4000000 in
theorem rWord_any (w : World) (B q N : Nat) (E : List Rg.Ed) (u : Int) (Ae : Option Addr) (ce : Nat) (mn : Int) (mg : Or.F) (t g : Int) (h : RaAt w B q N E u Ae ce mn mg) : Calls Try.prog 40 #[.pointer (some ⟨q, 0, none⟩), .int .i64 t, .int .i64 g] w fun e_ w' => ∃ (x : Or.S) (b : Bool), e_ = .returned (.tuple #[.agg #[.int .i64 x.u, .int .i64 x.q, .int .i64 x.s, .int .i64 x.n, .int .i64 x.e], .bool b]) ∧ RaAt w' B q N E u Ae ce (max mn (Ag.cl t)) mg ∧ Chg (· = q) w w' := by
  obtain ⟨hBq, s, v, i, d, pp, A, c, sp, l, r, HR, HP, hpc, HE, ho⟩ := h
  have hql := HR.lt
  refine Fw.calls Try.func40 rfl Try.ntmps40 rfl ?_
  have HC := Chg.refl (· = q) w
  refine Fw.seq fun _ hK1 => ?_
  refine Fw.region ?_
  refine Fw.alloc ze48 rfl ?_
  intro w1 gx egx Hx hb
  have n_q_gx : q < gx := by have := HR.lt; omega
  have lgx : w.heap.size ≤ gx := by have := HC.size; omega
  replace HR := HR.low hb
  replace HP := HP.low hb
  replace HE := HE.below (hb.mono HE.1)
  replace HC := HC.trans (Chg.of_below hb (· = q)) (fun _ _ h => h)
  clear hb
  clear egx
  refine Fw.s (Fw.val_assign rfl) rfl ?_
  refine Fw.nil ?_
  refine hK1 _ _ ?_
  refine Fw.seq fun _ hK2 => ?_
  refine Fw.region ?_
  refine Fw.s (Fw.val_move rfl) rfl ?_
  refine Fw.s (Fw.val_move rfl) rfl ?_
  refine Fw.call cf41 rfl rfl (tick_any _ B q N E u Ae ce mn mg t ⟨hBq, s, v, i, d, pp, A, c, sp, l, r, HR, HP, hpc, HE, ho⟩) ?_
  rintro e_ w2 ⟨rfl, H2, hc⟩
  refine ⟨_, rfl, ?_⟩
  replace Hx := Hx.chg hc (by omega)
  replace HC := HC.trans hc (fun k hk_ e => by first | exact e | (left; exact e) | (right; exact e) | (exfalso; omega))
  clear hc
  clear HR HP HE
  obtain ⟨_, s2, v2, i2, d2, pp2, A2, c2, sp2, l2, r2, HR, HP, hpc2, HE, ho2⟩ := H2
  have hql2 := HR.lt
  refine Fw.nil ?_
  refine hK2 _ _ ?_
  refine Fw.seq fun _ hK3 => ?_
  refine Fw.region ?_
  refine Fw.s (Fw.val_move rfl) rfl ?_
  refine Fw.s (Fw.val_nil rfl) rfl ?_
  refine Fw.s (Fw.val_fieldAddr fl50_9 rfl rfl) rfl ?_
  refine Fw.ldA ag48 rfl (Fw.rdPart (Fw.rdBlk HR) 15 5) rfl rfl ?_
  refine Fw.alloc ze48 rfl ?_
  intro w3 gy egy Hy hb
  have n_q_gy : q < gy := by have := HR.lt; omega
  have n_gx_gy : gx < gy := by have := Hx.lt; omega
  have lgy : w.heap.size ≤ gy := by have := HC.size; omega
  replace HR := HR.low hb
  replace HP := HP.low hb
  replace HE := HE.below (hb.mono HE.1)
  replace Hx := Hx.low hb
  replace HC := HC.trans (Chg.of_below hb (· = q)) (fun _ _ h => h)
  clear hb
  clear egy
  refine Fw.storeW sz48 rfl rfl Hy rfl rfl (by exact Fw.oneCells rfl) ?_
  intro w4 N_ hc
  replace HR := HR.chg hc (by omega)
  replace HP := HP.chg hc (Fw.RdT.ne_ HP Hy (by decide))
  replace HE := HE.below (hc.below (B := B) (fun k e => by omega) HE.1)
  replace Hx := Hx.chg hc (by omega)
  replace HC := HC.trans hc (fun k hk_ e => by first | exact e | (left; exact e) | (right; exact e) | (exfalso; omega))
  clear hc
  clear Hy
  have Hy := N_
  clear N_
  replace Hy : Blk w4 gy 48 #[.int .i64 l2.u, .int .i64 l2.q, .int .i64 l2.s, .int .i64 l2.n, .int .i64 l2.e] := Hy
  refine Fw.nil ?_
  refine hK3 _ _ (Fw.FC.sub (f' := [(8, _), (6, _), (0, _), (2, _)]) (.cons rfl (.cons rfl (.cons rfl (.cons rfl .nil)))) ?_)
  refine Fw.seq_cutE (α := Bool) (fun x_ => match x_ with | od => [(0, .pointer (some ⟨q, 0, none⟩)), (6, .pointer (some ⟨gx, 0, none⟩)), (8, .pointer (some ⟨gy, 0, none⟩)), (9, .bool od)]) (fun x_ W_ => match x_ with | od => Blk W_ q 50 #[.int .i64 (N : Int), .slice Ae E.length ce, .int .i64 mg.u, .int .i64 mg.o.u, .int .i64 mg.o.e, .int .i64 mg.o.k, .int .i64 mg.o.i, .int .i64 mg.o.n, .int .i64 s2, .int .i64 (v2 : Int), .int .i64 i2, .int .i64 (d2 : Int), .slice A2 pp2.length c2, .int .i64 sp2, .int .i64 (max mn (Ag.cl t)), .int .i64 l2.u, .int .i64 l2.q, .int .i64 l2.s, .int .i64 l2.n, .int .i64 l2.e, .int .i64 r2] ∧ Fw.RdT W_ 3 A2 (Rg.ints pp2) ∧ ELow W_ B Ae E ∧ Blk W_ gx 48 #[.int .i64 0, .int .i64 0, .int .i64 0, .int .i64 0, .int .i64 0] ∧ Blk W_ gy 48 #[.int .i64 l2.u, .int .i64 l2.q, .int .i64 l2.s, .int .i64 l2.n, .int .i64 l2.e] ∧ Chg (· = q) w W_) ?_ (fun _ hK4 => ?_)
  rintro od w5 ⟨HR, HP, HE, Hx, Hy, HC⟩
  show Fw.FC _ _ _ _ _ [(0, .pointer (some ⟨q, 0, none⟩)), (6, .pointer (some ⟨gx, 0, none⟩)), (8, .pointer (some ⟨gy, 0, none⟩)), (9, .bool od)] _
  refine Fw.seq_cut [(0, .pointer (some ⟨q, 0, none⟩)), (6, .pointer (some ⟨gx, 0, none⟩)), (8, .pointer (some ⟨gy, 0, none⟩))] (fun W_ => Blk W_ q 50 #[.int .i64 (N : Int), .slice Ae E.length ce, .int .i64 mg.u, .int .i64 mg.o.u, .int .i64 mg.o.e, .int .i64 mg.o.k, .int .i64 mg.o.i, .int .i64 mg.o.n, .int .i64 s2, .int .i64 (v2 : Int), .int .i64 i2, .int .i64 (d2 : Int), .slice A2 pp2.length c2, .int .i64 sp2, .int .i64 (max mn (Ag.cl t)), .int .i64 l2.u, .int .i64 l2.q, .int .i64 l2.s, .int .i64 l2.n, .int .i64 l2.e, .int .i64 r2] ∧ Fw.RdT W_ 3 A2 (Rg.ints pp2) ∧ ELow W_ B Ae E ∧ Blk W_ gx 48 #[.int .i64 0, .int .i64 0, .int .i64 0, .int .i64 0, .int .i64 0] ∧ Blk W_ gy 48 #[.int .i64 l2.u, .int .i64 l2.q, .int .i64 l2.s, .int .i64 l2.n, .int .i64 l2.e] ∧ Chg (· = q) w W_) ?_ (fun _ hK5 => ?_)
  rintro w6 ⟨HR, HP, HE, Hx, Hy, HC⟩
  refine Fw.seq fun _ hK6 => ?_
  refine Fw.regionL 22 (by kernel_rfl) ?_
  have R_HR := HR
  have R_Hx := Hx
  have R_Hy := Hy
  intro w7 hb
  have HS := hb
  replace HR := HR.low hb
  replace HP := HP.low hb
  replace HE := HE.below (hb.mono HE.1)
  replace Hx := Hx.low hb
  replace Hy := Hy.low hb
  replace HC := HC.trans (Chg.of_below hb (· = q)) (fun _ _ h => h)
  clear hb
  refine Fw.lTk 0 rfl rfl (Fw.yV (Fw.val_move rfl)) rfl ?_
  refine Fw.lTk 1 rfl rfl (Fw.yV (Fw.val_move rfl)) rfl ?_
  refine Fw.lTk 2 rfl rfl (Fw.yV (Fw.val_nil rfl)) rfl ?_
  refine Fw.lTk 3 rfl rfl (Fw.yV (Fw.val_fieldAddr fl50_1 rfl rfl)) rfl ?_
  refine Fw.lTk 4 rfl rfl (Fw.yV (Fw.val_fieldAddr fl45_0 rfl rfl)) rfl ?_
  refine Fw.lTk 5 rfl rfl (Fw.yV (Fw.hLd sc3 rfl (R_HR.cell 2))) rfl ?_
  refine Fw.lTk 6 rfl rfl (Fw.yV (Fw.val_fieldAddr fl48_1 rfl rfl)) rfl ?_
  refine Fw.lTk 7 rfl rfl (Fw.yV (Fw.hLd sc2 rfl (R_Hy.cell 1))) rfl ?_
  refine Fw.lTk 8 rfl rfl (Fw.yV (Fw.val_bin rfl rfl (Fw.b_add rfl))) rfl ?_
  refine Fw.lTk 9 rfl rfl (Fw.yV (Fw.val_move rfl)) rfl ?_
  refine Fw.lTk 10 rfl rfl (Fw.yV (Fw.val_nil rfl)) rfl ?_
  refine Fw.lTk 11 rfl rfl (Fw.yV (Fw.val_fieldAddr fl50_2 rfl rfl)) rfl ?_
  refine Fw.lTk 12 rfl rfl (Fw.yV (Fw.hLd sc3 rfl (R_HR.cell 8))) rfl ?_
  refine Fw.lTk 13 rfl rfl (Fw.yV (Fw.val_move rfl)) rfl ?_
  refine Fw.lTk 14 rfl rfl (Fw.yV (Fw.val_nil rfl)) rfl ?_
  refine Fw.lTk 15 rfl rfl (Fw.yV (Fw.val_fieldAddr fl50_3 rfl rfl)) rfl ?_
  refine Fw.lTk 16 rfl rfl (Fw.yV (Fw.hLd sc3 rfl (R_HR.cell 9))) rfl ?_
  refine Fw.lTk 17 rfl rfl (Fw.yV (Fw.val_move rfl)) rfl ?_
  refine Fw.lOp 18 rfl (by kernel_rfl) ?_
  refine Fw.call cf18 rfl rfl (rEpoch_any _ B q N E u Ae ce (max mn (Ag.cl t)) mg ⟨hBq, s2, v2, i2, d2, pp2, A2, c2, sp2, l2, r2, HR, HP, hpc2, HE, ho2⟩) ?_
  rintro e_ _ ⟨rfl, rfl⟩
  refine ⟨_, rfl, ?_⟩
  refine Fw.lNext HS ?_
  refine Fw.lTk 19 rfl rfl (Fw.yV (Fw.val_build (ps := [(0, _), (1, _), (2, _), (3, _), (4, _)]) rfl (bu48_0_1_2_3_4 _ _ _ _ _))) rfl ?_
  refine Fw.lTk 20 rfl rfl (Fw.yV (Fw.val_nil rfl)) rfl ?_
  refine Fw.lTk 21 rfl rfl (Fw.yV (Fw.val_fieldAddr fl50_9 rfl rfl)) rfl ?_
  refine Fw.lLast rfl (by kernel_rfl) (by kernel_rfl) ?_
  refine Fw.storeP sz48 rfl rfl HR rfl rfl (by exact Fw.oneCells rfl) ?_
  intro w8 N_ hc
  replace HP := HP.chg hc (Fw.RdT.ne_ HP HR (by decide))
  replace HE := HE.below (hc.below (B := B) (fun k e => by omega) HE.1)
  replace Hx := Hx.chg hc (by omega)
  replace Hy := Hy.chg hc (by omega)
  replace HC := HC.trans hc (fun k hk_ e => by first | exact e | (left; exact e) | (right; exact e) | (exfalso; omega))
  clear hc
  clear HR
  have HR := N_
  clear N_
  replace HR : Blk w8 q 50 #[.int .i64 (N : Int), .slice Ae E.length ce, .int .i64 mg.u, .int .i64 mg.o.u, .int .i64 mg.o.e, .int .i64 mg.o.k, .int .i64 mg.o.i, .int .i64 mg.o.n, .int .i64 s2, .int .i64 (v2 : Int), .int .i64 i2, .int .i64 (d2 : Int), .slice A2 pp2.length c2, .int .i64 sp2, .int .i64 (max mn (Ag.cl t)), .int .i64 mg.u, .int .i64 (IntKind.i64.wrap (l2.q + 1)), .int .i64 s2, .int .i64 (v2 : Int), .int .i64 mg.o.e, .int .i64 r2] := HR
  refine Fw.nil ?_
  refine hK6 _ _ (Fw.FC.sub (f' := [(0, _), (6, _)]) (.cons rfl (.cons rfl .nil)) ?_)
  refine Fw.seq fun _ hK7 => ?_
  refine Fw.region ?_
  refine Fw.s (Fw.val_move rfl) rfl ?_
  refine Fw.s (Fw.val_move rfl) rfl ?_
  refine Fw.s (Fw.val_nil rfl) rfl ?_
  refine Fw.s (Fw.val_fieldAddr fl50_8 rfl rfl) rfl ?_
  refine Fw.ld sc2 rfl (HR.cell 14) rfl ?_
  refine Fw.s (Fw.val_nil rfl) rfl ?_
  refine Fw.s (Fw.val_fieldAddr fl50_10 rfl rfl) rfl ?_
  refine Fw.store sz2 rfl rfl HR rfl rfl rfl ?_
  intro w9 N_ hc
  replace HP := HP.chg hc (Fw.RdT.ne_ HP HR (by decide))
  replace HE := HE.below (hc.below (B := B) (fun k e => by omega) HE.1)
  replace Hx := Hx.chg hc (by omega)
  replace Hy := Hy.chg hc (by omega)
  replace HC := HC.trans hc (fun k hk_ e => by first | exact e | (left; exact e) | (right; exact e) | (exfalso; omega))
  clear hc
  clear HR
  have HR := N_
  clear N_
  replace HR : Blk w9 q 50 #[.int .i64 (N : Int), .slice Ae E.length ce, .int .i64 mg.u, .int .i64 mg.o.u, .int .i64 mg.o.e, .int .i64 mg.o.k, .int .i64 mg.o.i, .int .i64 mg.o.n, .int .i64 s2, .int .i64 (v2 : Int), .int .i64 i2, .int .i64 (d2 : Int), .slice A2 pp2.length c2, .int .i64 sp2, .int .i64 (max mn (Ag.cl t)), .int .i64 mg.u, .int .i64 (IntKind.i64.wrap (l2.q + 1)), .int .i64 s2, .int .i64 (v2 : Int), .int .i64 mg.o.e, .int .i64 (max mn (Ag.cl t))] := HR
  refine Fw.nil ?_
  refine hK7 _ _ (Fw.FC.sub (f' := [(0, _), (6, _)]) (.cons rfl (.cons rfl .nil)) ?_)
  refine Fw.seq fun _ hK8 => ?_
  refine Fw.region ?_
  refine Fw.s (Fw.val_move rfl) rfl ?_
  refine Fw.s (Fw.val_nil rfl) rfl ?_
  refine Fw.s (Fw.val_fieldAddr fl50_9 rfl rfl) rfl ?_
  refine Fw.ldA ag48 rfl (Fw.rdPart (Fw.rdBlk HR) 15 5) rfl rfl ?_
  refine Fw.storeW sz48 rfl rfl Hx rfl rfl (by exact Fw.oneCells rfl) ?_
  intro w10 N_ hc
  replace HR := HR.chg hc (by omega)
  replace HP := HP.chg hc (Fw.RdT.ne_ HP Hx (by decide))
  replace HE := HE.below (hc.below (B := B) (fun k e => by omega) HE.1)
  replace Hy := Hy.chg hc (by omega)
  replace HC := HC.trans hc (fun k hk_ e => by first | exact e | (left; exact e) | (right; exact e) | (exfalso; omega))
  clear hc
  clear Hx
  have Hx := N_
  clear N_
  replace Hx : Blk w10 gx 48 #[.int .i64 mg.u, .int .i64 (IntKind.i64.wrap (l2.q + 1)), .int .i64 s2, .int .i64 (v2 : Int), .int .i64 mg.o.e] := Hx
  refine Fw.s (Fw.val_assign rfl) rfl ?_
  refine Fw.nil ?_
  refine hK8 _ _ ?_
  refine Fw.ret ?_
  refine Fw.ret_ [.cell 6 48, .tmp 7] [_, _] Try.results40 (Fw.ResL.cellM rfl ag48 (Fw.rdBlk Hx) rfl (.tmp rfl .nil)) ?_
  exact ⟨⟨mg.u, IntKind.i64.wrap (l2.q + 1), s2, (v2 : Int), mg.o.e⟩, true, rfl, ⟨hBq, s2, v2, i2, d2, pp2, A2, c2, sp2, ⟨mg.u, IntKind.i64.wrap (l2.q + 1), s2, (v2 : Int), mg.o.e⟩, (max mn (Ag.cl t)), HR, HP, hpc2, HE, ho2.said⟩, HC⟩
  refine Fw.seq fun _ hK9 => ?_
  refine Fw.regionQ (by kernel_rfl) (by kernel_rfl) ?_
  refine Fw.q (Fw.val_fieldAddr fl48_1 rfl rfl) rfl ?_
  refine Fw.ldQ sc2 rfl (Hy.cell 1) rfl ?_
  refine Fw.q2 (Fw.val_bin rfl rfl Fw.b_gtr) rfl ?_ ?_
  rintro t1
  refine Fw.q (Fw.val_move rfl) rfl ?_
  refine Fw.gTQ (d := 35) rfl rfl ?_
  refine Fw.q (Fw.val_fieldAddr fl48_2 rfl rfl) rfl ?_
  refine Fw.gTQ (d := 35) rfl rfl ?_
  refine Fw.ldQ sc3 rfl (Hy.cell 2) rfl ?_
  refine Fw.gTQ (d := 35) rfl rfl ?_
  refine Fw.q (Fw.val_move rfl) rfl ?_
  refine Fw.gTQ (d := 35) rfl rfl ?_
  refine Fw.q (Fw.val_nil rfl) rfl ?_
  refine Fw.gTQ (d := 35) rfl rfl ?_
  refine Fw.q (Fw.val_fieldAddr fl50_2 rfl rfl) rfl ?_
  refine Fw.gTQ (d := 35) rfl rfl ?_
  refine Fw.ldQ sc3 rfl (HR.cell 8) rfl ?_
  refine Fw.gTQ (d := 35) rfl rfl ?_
  refine Fw.q2 (Fw.val_bin rfl rfl Fw.b_eql) rfl ?_ ?_
  rintro t2
  refine Fw.q (Fw.val_pickT rfl rfl) rfl ?_
  refine Fw.q (Fw.val_move rfl) rfl ?_
  refine Fw.gTQ (d := 44) rfl rfl ?_
  refine Fw.q (Fw.val_fieldAddr fl48_3 rfl rfl) rfl ?_
  refine Fw.gTQ (d := 44) rfl rfl ?_
  refine Fw.ldQ sc3 rfl (Hy.cell 3) rfl ?_
  refine Fw.gTQ (d := 44) rfl rfl ?_
  refine Fw.q (Fw.val_move rfl) rfl ?_
  refine Fw.gTQ (d := 44) rfl rfl ?_
  refine Fw.q (Fw.val_nil rfl) rfl ?_
  refine Fw.gTQ (d := 44) rfl rfl ?_
  refine Fw.q (Fw.val_fieldAddr fl50_3 rfl rfl) rfl ?_
  refine Fw.gTQ (d := 44) rfl rfl ?_
  refine Fw.ldQ sc3 rfl (HR.cell 9) rfl ?_
  refine Fw.gTQ (d := 44) rfl rfl ?_
  refine Fw.q2 (Fw.val_bin rfl rfl Fw.b_eql) rfl ?_ ?_
  rintro t3
  refine Fw.q (Fw.val_pickT rfl rfl) rfl ?_
  refine Fw.q (Fw.val_move rfl) rfl ?_
  refine Fw.gTQ (d := 53) rfl rfl ?_
  refine Fw.q (Fw.val_fieldAddr fl48_4 rfl rfl) rfl ?_
  refine Fw.gTQ (d := 53) rfl rfl ?_
  refine Fw.ldQ sc2 rfl (Hy.cell 4) rfl ?_
  refine Fw.gTQ (d := 53) rfl rfl ?_
  refine Fw.q (Fw.val_move rfl) rfl ?_
  refine Fw.gTQ (d := 53) rfl rfl ?_
  refine Fw.callQ cf18 rfl rfl (fun w_ hb_ => rEpoch_any _ B q N E u Ae ce (max mn (Ag.cl t)) mg (RaAt.low ⟨hBq, s2, v2, i2, d2, pp2, A2, c2, sp2, l2, r2, HR, HP, hpc2, HE, ho2⟩ hb_)) (fun _ _ _ h => ⟨h.1, h.2 ▸ Below.refl _ _⟩) ?_
  refine Fw.gTQ (d := 53) rfl rfl ?_
  refine Fw.q2 (Fw.val_bin rfl rfl Fw.b_eql) rfl ?_ ?_
  rintro t4
  refine Fw.q (Fw.val_pickT rfl rfl) rfl ?_
  refine Fw.q (Fw.val_move rfl) rfl ?_
  refine Fw.gTQ (d := 60) rfl rfl ?_
  refine Fw.q (Fw.val_move rfl) rfl ?_
  refine Fw.b2Q ?_ ?_
  rintro ol
  refine Fw.gTQ (d := 60) rfl rfl ?_
  refine Fw.q (Fw.val_not rfl) rfl ?_
  refine Fw.q (Fw.val_pickT rfl rfl) rfl ?_
  refine Fw.nilQ ?_
  intro w11 hb
  replace HR := HR.low hb
  replace HP := HP.low hb
  replace HE := HE.below (hb.mono HE.1)
  replace Hx := Hx.low hb
  replace Hy := Hy.low hb
  replace HC := HC.trans (Chg.of_below hb (· = q)) (fun _ _ h => h)
  clear hb
  refine hK9 _ _ (Fw.FC.sub (f' := [(63, _), (0, _), (6, _), (8, _)]) (.cons rfl (.cons rfl (.cons rfl (.cons rfl .nil)))) ?_)
  refine Fw.condF rfl ?_
  refine Fw.skip ?_
  exact hK5 _ _ ⟨HR, HP, HE, Hx, Hy, HC⟩ (.cons rfl (.cons rfl (.cons rfl .nil)))
  rintro ol
  refine Fw.gTQ (d := 60) rfl rfl ?_
  refine Fw.q (Fw.val_not rfl) rfl ?_
  refine Fw.q (Fw.val_pickT rfl rfl) rfl ?_
  refine Fw.nilQ ?_
  intro w12 hb
  replace HR := HR.low hb
  replace HP := HP.low hb
  replace HE := HE.below (hb.mono HE.1)
  replace Hx := Hx.low hb
  replace Hy := Hy.low hb
  replace HC := HC.trans (Chg.of_below hb (· = q)) (fun _ _ h => h)
  clear hb
  refine hK9 _ _ (Fw.FC.sub (f' := [(63, _), (0, _), (6, _), (8, _)]) (.cons rfl (.cons rfl (.cons rfl (.cons rfl .nil)))) ?_)
  refine Fw.condT rfl ?_
  refine Fw.seq fun _ hK14 => ?_
  refine Fw.region ?_
  refine Fw.s (Fw.val_build (ps := []) rfl (bu48_)) rfl ?_
  refine Fw.storeW sz48 rfl rfl Hx rfl rfl (by exact Fw.oneCells rfl) ?_
  intro w13 N_ hc
  replace HR := HR.chg hc (by omega)
  replace HP := HP.chg hc (Fw.RdT.ne_ HP Hx (by decide))
  replace HE := HE.below (hc.below (B := B) (fun k e => by omega) HE.1)
  replace Hy := Hy.chg hc (by omega)
  replace HC := HC.trans hc (fun k hk_ e => by first | exact e | (left; exact e) | (right; exact e) | (exfalso; omega))
  clear hc
  clear Hx
  have Hx := N_
  clear N_
  replace Hx : Blk w13 gx 48 #[.int .i64 0, .int .i64 0, .int .i64 0, .int .i64 0, .int .i64 0] := Hx
  refine Fw.s (Fw.val_assign rfl) rfl ?_
  refine Fw.nil ?_
  refine hK14 _ _ ?_
  refine Fw.ret ?_
  refine Fw.X_ret ?_
  refine Fw.ret_ [.cell 6 48, .tmp 7] [_, _] Try.results40 (Fw.ResL.cellM rfl ag48 (Fw.rdBlk Hx) rfl (.tmp rfl .nil)) ?_
  exact ⟨⟨0, 0, 0, 0, 0⟩, false, rfl, ⟨hBq, s2, v2, i2, d2, pp2, A2, c2, sp2, l2, r2, HR, HP, hpc2, HE, ho2⟩, HC⟩
  rintro t4
  refine Fw.q (Fw.val_pickT rfl rfl) rfl ?_
  refine Fw.q (Fw.val_move rfl) rfl ?_
  refine Fw.gFQ (d := 60) rfl rfl rfl rfl ?_
  refine Fw.gFQ (d := 60) rfl rfl rfl rfl ?_
  refine Fw.q (Fw.val_pickF rfl rfl) rfl ?_
  refine Fw.nilQ ?_
  intro w14 hb
  replace HR := HR.low hb
  replace HP := HP.low hb
  replace HE := HE.below (hb.mono HE.1)
  replace Hx := Hx.low hb
  replace Hy := Hy.low hb
  replace HC := HC.trans (Chg.of_below hb (· = q)) (fun _ _ h => h)
  clear hb
  refine hK9 _ _ (Fw.FC.sub (f' := [(63, _), (0, _), (6, _), (8, _)]) (.cons rfl (.cons rfl (.cons rfl (.cons rfl .nil)))) ?_)
  refine Fw.condF rfl ?_
  refine Fw.skip ?_
  exact hK5 _ _ ⟨HR, HP, HE, Hx, Hy, HC⟩ (.cons rfl (.cons rfl (.cons rfl .nil)))
  rintro t3
  refine Fw.q (Fw.val_pickT rfl rfl) rfl ?_
  refine Fw.q (Fw.val_move rfl) rfl ?_
  refine Fw.gFQ (d := 53) rfl rfl rfl rfl ?_
  refine Fw.gFQ (d := 53) rfl rfl rfl rfl ?_
  refine Fw.gFQ (d := 53) rfl rfl rfl rfl ?_
  refine Fw.gFQ (d := 53) rfl rfl rfl rfl ?_
  refine Fw.gFQ (d := 53) rfl rfl rfl rfl ?_
  refine Fw.q (Fw.val_pickF rfl rfl) rfl ?_
  refine Fw.q (Fw.val_move rfl) rfl ?_
  refine Fw.gFQ (d := 60) rfl rfl rfl rfl ?_
  refine Fw.gFQ (d := 60) rfl rfl rfl rfl ?_
  refine Fw.q (Fw.val_pickF rfl rfl) rfl ?_
  refine Fw.nilQ ?_
  intro w15 hb
  replace HR := HR.low hb
  replace HP := HP.low hb
  replace HE := HE.below (hb.mono HE.1)
  replace Hx := Hx.low hb
  replace Hy := Hy.low hb
  replace HC := HC.trans (Chg.of_below hb (· = q)) (fun _ _ h => h)
  clear hb
  refine hK9 _ _ (Fw.FC.sub (f' := [(63, _), (0, _), (6, _), (8, _)]) (.cons rfl (.cons rfl (.cons rfl (.cons rfl .nil)))) ?_)
  refine Fw.condF rfl ?_
  refine Fw.skip ?_
  exact hK5 _ _ ⟨HR, HP, HE, Hx, Hy, HC⟩ (.cons rfl (.cons rfl (.cons rfl .nil)))
  rintro t2
  refine Fw.q (Fw.val_pickT rfl rfl) rfl ?_
  refine Fw.q (Fw.val_move rfl) rfl ?_
  refine Fw.gFQ (d := 44) rfl rfl rfl rfl ?_
  refine Fw.gFQ (d := 44) rfl rfl rfl rfl ?_
  refine Fw.gFQ (d := 44) rfl rfl rfl rfl ?_
  refine Fw.gFQ (d := 44) rfl rfl rfl rfl ?_
  refine Fw.gFQ (d := 44) rfl rfl rfl rfl ?_
  refine Fw.gFQ (d := 44) rfl rfl rfl rfl ?_
  refine Fw.gFQ (d := 44) rfl rfl rfl rfl ?_
  refine Fw.q (Fw.val_pickF rfl rfl) rfl ?_
  refine Fw.q (Fw.val_move rfl) rfl ?_
  refine Fw.gFQ (d := 53) rfl rfl rfl rfl ?_
  refine Fw.gFQ (d := 53) rfl rfl rfl rfl ?_
  refine Fw.gFQ (d := 53) rfl rfl rfl rfl ?_
  refine Fw.gFQ (d := 53) rfl rfl rfl rfl ?_
  refine Fw.gFQ (d := 53) rfl rfl rfl rfl ?_
  refine Fw.q (Fw.val_pickF rfl rfl) rfl ?_
  refine Fw.q (Fw.val_move rfl) rfl ?_
  refine Fw.gFQ (d := 60) rfl rfl rfl rfl ?_
  refine Fw.gFQ (d := 60) rfl rfl rfl rfl ?_
  refine Fw.q (Fw.val_pickF rfl rfl) rfl ?_
  refine Fw.nilQ ?_
  intro w16 hb
  replace HR := HR.low hb
  replace HP := HP.low hb
  replace HE := HE.below (hb.mono HE.1)
  replace Hx := Hx.low hb
  replace Hy := Hy.low hb
  replace HC := HC.trans (Chg.of_below hb (· = q)) (fun _ _ h => h)
  clear hb
  refine hK9 _ _ (Fw.FC.sub (f' := [(63, _), (0, _), (6, _), (8, _)]) (.cons rfl (.cons rfl (.cons rfl (.cons rfl .nil)))) ?_)
  refine Fw.condF rfl ?_
  refine Fw.skip ?_
  exact hK5 _ _ ⟨HR, HP, HE, Hx, Hy, HC⟩ (.cons rfl (.cons rfl (.cons rfl .nil)))
  rintro t1
  refine Fw.q (Fw.val_move rfl) rfl ?_
  refine Fw.gFQ (d := 35) rfl rfl rfl rfl ?_
  refine Fw.gFQ (d := 35) rfl rfl rfl rfl ?_
  refine Fw.gFQ (d := 35) rfl rfl rfl rfl ?_
  refine Fw.gFQ (d := 35) rfl rfl rfl rfl ?_
  refine Fw.gFQ (d := 35) rfl rfl rfl rfl ?_
  refine Fw.gFQ (d := 35) rfl rfl rfl rfl ?_
  refine Fw.gFQ (d := 35) rfl rfl rfl rfl ?_
  refine Fw.q (Fw.val_pickF rfl rfl) rfl ?_
  refine Fw.q (Fw.val_move rfl) rfl ?_
  refine Fw.gFQ (d := 44) rfl rfl rfl rfl ?_
  refine Fw.gFQ (d := 44) rfl rfl rfl rfl ?_
  refine Fw.gFQ (d := 44) rfl rfl rfl rfl ?_
  refine Fw.gFQ (d := 44) rfl rfl rfl rfl ?_
  refine Fw.gFQ (d := 44) rfl rfl rfl rfl ?_
  refine Fw.gFQ (d := 44) rfl rfl rfl rfl ?_
  refine Fw.gFQ (d := 44) rfl rfl rfl rfl ?_
  refine Fw.q (Fw.val_pickF rfl rfl) rfl ?_
  refine Fw.q (Fw.val_move rfl) rfl ?_
  refine Fw.gFQ (d := 53) rfl rfl rfl rfl ?_
  refine Fw.gFQ (d := 53) rfl rfl rfl rfl ?_
  refine Fw.gFQ (d := 53) rfl rfl rfl rfl ?_
  refine Fw.gFQ (d := 53) rfl rfl rfl rfl ?_
  refine Fw.gFQ (d := 53) rfl rfl rfl rfl ?_
  refine Fw.q (Fw.val_pickF rfl rfl) rfl ?_
  refine Fw.q (Fw.val_move rfl) rfl ?_
  refine Fw.gFQ (d := 60) rfl rfl rfl rfl ?_
  refine Fw.gFQ (d := 60) rfl rfl rfl rfl ?_
  refine Fw.q (Fw.val_pickF rfl rfl) rfl ?_
  refine Fw.nilQ ?_
  intro w17 hb
  replace HR := HR.low hb
  replace HP := HP.low hb
  replace HE := HE.below (hb.mono HE.1)
  replace Hx := Hx.low hb
  replace Hy := Hy.low hb
  replace HC := HC.trans (Chg.of_below hb (· = q)) (fun _ _ h => h)
  clear hb
  refine hK9 _ _ (Fw.FC.sub (f' := [(63, _), (0, _), (6, _), (8, _)]) (.cons rfl (.cons rfl (.cons rfl (.cons rfl .nil)))) ?_)
  refine Fw.condF rfl ?_
  refine Fw.skip ?_
  exact hK5 _ _ ⟨HR, HP, HE, Hx, Hy, HC⟩ (.cons rfl (.cons rfl (.cons rfl .nil)))
  refine Fw.regionQ (by kernel_rfl) (by kernel_rfl) ?_
  refine Fw.q (Fw.val_move rfl) rfl ?_
  refine Fw.q2 (Fw.val_bin rfl rfl Fw.b_gtr) rfl ?_ ?_
  rintro d1
  refine Fw.q (Fw.val_move rfl) rfl ?_
  refine Fw.gTQ (d := 19) rfl rfl ?_
  refine Fw.q (Fw.val_move rfl) rfl ?_
  refine Fw.gTQ (d := 19) rfl rfl ?_
  refine Fw.q (Fw.val_nil rfl) rfl ?_
  refine Fw.gTQ (d := 19) rfl rfl ?_
  refine Fw.q (Fw.val_fieldAddr fl50_8 rfl rfl) rfl ?_
  refine Fw.gTQ (d := 19) rfl rfl ?_
  refine Fw.ldQ sc2 rfl (HR.cell 14) rfl ?_
  refine Fw.gTQ (d := 19) rfl rfl ?_
  refine Fw.q (Fw.val_move rfl) rfl ?_
  refine Fw.gTQ (d := 19) rfl rfl ?_
  refine Fw.q (Fw.val_nil rfl) rfl ?_
  refine Fw.gTQ (d := 19) rfl rfl ?_
  refine Fw.q (Fw.val_fieldAddr fl50_10 rfl rfl) rfl ?_
  refine Fw.gTQ (d := 19) rfl rfl ?_
  refine Fw.ldQ sc2 rfl (HR.cell 20) rfl ?_
  refine Fw.gTQ (d := 19) rfl rfl ?_
  refine Fw.q (Fw.val_bin rfl rfl (Fw.b_sub (Fw.i64_ok (by have := ho2.hmn; have := ho2.hr; omega)))) rfl ?_
  refine Fw.gTQ (d := 19) rfl rfl ?_
  refine Fw.q (Fw.val_move rfl) rfl ?_
  refine Fw.gTQ (d := 19) rfl rfl ?_
  refine Fw.q (Fw.val_bin rfl rfl Fw.b_geq) rfl ?_
  refine Fw.q (Fw.val_pickT rfl rfl) rfl ?_
  refine Fw.q (Fw.val_assign rfl) rfl ?_
  refine Fw.nilQ ?_
  intro w18 hb
  replace HR := HR.low hb
  replace HP := HP.low hb
  replace HE := HE.below (hb.mono HE.1)
  replace Hx := Hx.low hb
  replace Hy := Hy.low hb
  replace HC := HC.trans (Chg.of_below hb (· = q)) (fun _ _ h => h)
  clear hb
  exact hK4 _ _ _ ⟨HR, HP, HE, Hx, Hy, HC⟩ (.cons rfl (.cons rfl (.cons rfl (.cons rfl .nil))))
  rintro d1
  refine Fw.q (Fw.val_move rfl) rfl ?_
  refine Fw.gFQ (d := 19) rfl rfl rfl rfl ?_
  refine Fw.gFQ (d := 19) rfl rfl rfl rfl ?_
  refine Fw.gFQ (d := 19) rfl rfl rfl rfl ?_
  refine Fw.gFQ (d := 19) rfl rfl rfl rfl ?_
  refine Fw.gFQ (d := 19) rfl rfl rfl rfl ?_
  refine Fw.gFQ (d := 19) rfl rfl rfl rfl ?_
  refine Fw.gFQ (d := 19) rfl rfl rfl rfl ?_
  refine Fw.gFQ (d := 19) rfl rfl rfl rfl ?_
  refine Fw.gFQ (d := 19) rfl rfl rfl rfl ?_
  refine Fw.gFQ (d := 19) rfl rfl rfl rfl ?_
  refine Fw.gFQ (d := 19) rfl rfl rfl rfl ?_
  refine Fw.q (Fw.val_pickF rfl rfl) rfl ?_
  refine Fw.q (Fw.val_assign rfl) rfl ?_
  refine Fw.nilQ ?_
  intro w19 hb
  replace HR := HR.low hb
  replace HP := HP.low hb
  replace HE := HE.below (hb.mono HE.1)
  replace Hx := Hx.low hb
  replace Hy := Hy.low hb
  replace HC := HC.trans (Chg.of_below hb (· = q)) (fun _ _ h => h)
  clear hb
  exact hK4 _ _ _ ⟨HR, HP, HE, Hx, Hy, HC⟩ (.cons rfl (.cons rfl (.cons rfl (.cons rfl .nil))))

set_option maxRecDepth 100000 in
set_option maxHeartbeats 1000000 in
theorem rNew_any (w : World) (u v Nn : Int) (Ae : Option Addr) (n ce : Nat) : Calls Try.prog 10 #[.int .i64 u, .int .i64 v, .agg #[.int .i64 Nn, .slice Ae n ce]] w fun e_ w' => ∃ q, e_ = .returned (.tuple #[.pointer (some ⟨q, 0, none⟩), .bool (decide ((0 ≤ u ∧ u ≤ 255) ∧ (0 ≤ v ∧ v < Nn)))]) ∧ w.heap.size ≤ q ∧ Blk w' q 50 #[.int .i64 Nn, .slice Ae n ce, .int .i64 u, .int .i64 0, .int .i64 0, .int .i64 0, .int .i64 0, .int .i64 0, .int .i64 1, .int .i64 v, .int .i64 0, .int .i64 v, .slice none 0 0, .int .i64 0, .int .i64 0, .int .i64 0, .int .i64 0, .int .i64 0, .int .i64 0, .int .i64 0, .int .i64 0] ∧ Below w.heap.size w w' := by
  refine Fw.calls Try.func10 rfl Try.ntmps10 rfl ?_
  have HB := Below.refl (w.heap.size) w
  refine Fw.seq fun _ hK1 => ?_
  refine Fw.region ?_
  refine Fw.box rfl rfl ?_
  intro w1 gn egn Hn hb
  have lgn : w.heap.size ≤ gn := by have := HB.size; omega
  replace HB := HB.trans (hb.mono HB.size)
  clear hb
  clear egn
  refine Fw.s (Fw.val_assign rfl) rfl ?_
  refine Fw.s (Fw.val_assign rfl) rfl ?_
  refine Fw.nil ?_
  refine hK1 _ _ ?_
  refine Fw.seq fun _ hK2 => ?_
  refine Fw.region ?_
  refine Fw.ldA ag24 rfl (Fw.rdBlk Hn) rfl rfl ?_
  refine Fw.s (Fw.val_move rfl) rfl ?_
  refine Fw.s (Fw.val_move rfl) rfl ?_
  refine Fw.s (Fw.val_build (ps := [(0, _), (2, _), (3, _), (5, _)]) rfl (bu50_0_2_3_5 _ _ _ _ _ _ _)) rfl ?_
  refine Fw.box rfl rfl ?_
  intro w2 gq egq Hq hb
  have n_gn_gq : gn < gq := by have := Hn.lt; omega
  have lgq : w.heap.size ≤ gq := by have := HB.size; omega
  replace Hn := Hn.low hb
  replace HB := HB.trans (hb.mono HB.size)
  clear hb
  clear egq
  refine Fw.s (Fw.val_assign rfl) rfl ?_
  refine Fw.nil ?_
  refine hK2 _ _ (Fw.FC.sub (f' := [(8, _), (5, _), (0, _), (1, _)]) (.cons rfl (.cons rfl (.cons rfl (.cons rfl .nil)))) ?_)
  refine Fw.seq fun _ hK3 => ?_
  refine Fw.region ?_
  refine Fw.s (Fw.val_move rfl) rfl ?_
  refine Fw.s (Fw.val_move rfl) rfl ?_
  refine Fw.s (Fw.val_nil rfl) rfl ?_
  refine Fw.s (Fw.val_fieldAddr fl50_1 rfl rfl) rfl ?_
  refine Fw.s (Fw.val_fieldAddr fl45_0 rfl rfl) rfl ?_
  refine Fw.store sz3 rfl rfl Hq rfl rfl rfl ?_
  intro w3 N_ hc
  replace Hn := Hn.chg hc (by omega)
  replace HB := HB.trans (hc.below (B := w.heap.size) (fun k e => by omega) HB.size)
  clear hc
  clear Hq
  have Hq := N_
  clear N_
  replace Hq : Blk w3 gq 50 #[.int .i64 Nn, .slice Ae n ce, .int .i64 u, .int .i64 0, .int .i64 0, .int .i64 0, .int .i64 0, .int .i64 0, .int .i64 1, .int .i64 v, .int .i64 0, .int .i64 v, .slice none 0 0, .int .i64 0, .int .i64 0, .int .i64 0, .int .i64 0, .int .i64 0, .int .i64 0, .int .i64 0, .int .i64 0] := Hq
  refine Fw.nil ?_
  refine hK3 _ _ ?_
  refine Fw.seq fun _ hK4 => ?_
  refine Fw.regionQ (by kernel_rfl) (by kernel_rfl) ?_
  refine Fw.q (Fw.val_move rfl) rfl ?_
  refine Fw.q (Fw.val_move rfl) rfl ?_
  refine Fw.q2 (Fw.val_bin rfl rfl Fw.b_geq) rfl ?_ ?_
  rintro k1
  refine Fw.q (Fw.val_move rfl) rfl ?_
  refine Fw.gTQ (d := 22) rfl rfl ?_
  refine Fw.q (Fw.val_move rfl) rfl ?_
  refine Fw.gTQ (d := 22) rfl rfl ?_
  refine Fw.q2 (Fw.val_bin rfl rfl Fw.b_leq) rfl ?_ ?_
  rintro k2
  refine Fw.q (Fw.val_pickT rfl rfl) rfl ?_
  refine Fw.q (Fw.val_move rfl) rfl ?_
  refine Fw.gTQ (d := 26) rfl rfl ?_
  refine Fw.q (Fw.val_move rfl) rfl ?_
  refine Fw.gTQ (d := 26) rfl rfl ?_
  refine Fw.q2 (Fw.val_bin rfl rfl Fw.b_geq) rfl ?_ ?_
  rintro k3
  refine Fw.q (Fw.val_pickT rfl rfl) rfl ?_
  refine Fw.q (Fw.val_move rfl) rfl ?_
  refine Fw.gTQ (d := 30) rfl rfl ?_
  refine Fw.q (Fw.val_move rfl) rfl ?_
  refine Fw.gTQ (d := 30) rfl rfl ?_
  refine Fw.q (Fw.val_fieldAddr fl24_0 rfl rfl) rfl ?_
  refine Fw.gTQ (d := 30) rfl rfl ?_
  refine Fw.ldQ sc3 rfl (Hn.cell 0) rfl ?_
  refine Fw.gTQ (d := 30) rfl rfl ?_
  refine Fw.q2 (Fw.val_bin rfl rfl Fw.b_lss) rfl ?_ ?_
  rintro k4
  refine Fw.q (Fw.val_pickT rfl rfl) rfl ?_
  refine Fw.q (Fw.val_assign rfl) rfl ?_
  refine Fw.q (Fw.val_assign rfl) rfl ?_
  refine Fw.nilQ ?_
  intro w4 hb
  replace Hn := Hn.low hb
  replace Hq := Hq.low hb
  replace HB := HB.trans (hb.mono HB.size)
  clear hb
  refine hK4 _ _ (Fw.FC.sub (f' := [(7, _), (6, _)]) (.cons rfl (.cons rfl .nil)) ?_)
  refine Fw.ret ?_
  refine Fw.ret_ [.tmp 6, .tmp 7] [_, _] Try.results10 (.tmp rfl (.tmp rfl .nil)) ?_
  rw [decide_eq_true (show ((0 ≤ u ∧ u ≤ 255) ∧ (0 ≤ v ∧ v < Nn)) by omega)]
  exact ⟨gq, rfl, lgq, Hq, HB⟩
  rintro k4
  refine Fw.q (Fw.val_pickT rfl rfl) rfl ?_
  refine Fw.q (Fw.val_assign rfl) rfl ?_
  refine Fw.q (Fw.val_assign rfl) rfl ?_
  refine Fw.nilQ ?_
  intro w5 hb
  replace Hn := Hn.low hb
  replace Hq := Hq.low hb
  replace HB := HB.trans (hb.mono HB.size)
  clear hb
  refine hK4 _ _ (Fw.FC.sub (f' := [(7, _), (6, _)]) (.cons rfl (.cons rfl .nil)) ?_)
  refine Fw.ret ?_
  refine Fw.ret_ [.tmp 6, .tmp 7] [_, _] Try.results10 (.tmp rfl (.tmp rfl .nil)) ?_
  rw [decide_eq_false (show ¬ ((0 ≤ u ∧ u ≤ 255) ∧ (0 ≤ v ∧ v < Nn)) by omega)]
  exact ⟨gq, rfl, lgq, Hq, HB⟩
  rintro k3
  refine Fw.q (Fw.val_pickT rfl rfl) rfl ?_
  refine Fw.q (Fw.val_move rfl) rfl ?_
  refine Fw.gFQ (d := 30) rfl rfl rfl rfl ?_
  refine Fw.gFQ (d := 30) rfl rfl rfl rfl ?_
  refine Fw.gFQ (d := 30) rfl rfl rfl rfl ?_
  refine Fw.gFQ (d := 30) rfl rfl rfl rfl ?_
  refine Fw.q (Fw.val_pickF rfl rfl) rfl ?_
  refine Fw.q (Fw.val_assign rfl) rfl ?_
  refine Fw.q (Fw.val_assign rfl) rfl ?_
  refine Fw.nilQ ?_
  intro w6 hb
  replace Hn := Hn.low hb
  replace Hq := Hq.low hb
  replace HB := HB.trans (hb.mono HB.size)
  clear hb
  refine hK4 _ _ (Fw.FC.sub (f' := [(7, _), (6, _)]) (.cons rfl (.cons rfl .nil)) ?_)
  refine Fw.ret ?_
  refine Fw.ret_ [.tmp 6, .tmp 7] [_, _] Try.results10 (.tmp rfl (.tmp rfl .nil)) ?_
  rw [decide_eq_false (show ¬ ((0 ≤ u ∧ u ≤ 255) ∧ (0 ≤ v ∧ v < Nn)) by omega)]
  exact ⟨gq, rfl, lgq, Hq, HB⟩
  rintro k2
  refine Fw.q (Fw.val_pickT rfl rfl) rfl ?_
  refine Fw.q (Fw.val_move rfl) rfl ?_
  refine Fw.gFQ (d := 26) rfl rfl rfl rfl ?_
  refine Fw.gFQ (d := 26) rfl rfl rfl rfl ?_
  refine Fw.q (Fw.val_pickF rfl rfl) rfl ?_
  refine Fw.q (Fw.val_move rfl) rfl ?_
  refine Fw.gFQ (d := 30) rfl rfl rfl rfl ?_
  refine Fw.gFQ (d := 30) rfl rfl rfl rfl ?_
  refine Fw.gFQ (d := 30) rfl rfl rfl rfl ?_
  refine Fw.gFQ (d := 30) rfl rfl rfl rfl ?_
  refine Fw.q (Fw.val_pickF rfl rfl) rfl ?_
  refine Fw.q (Fw.val_assign rfl) rfl ?_
  refine Fw.q (Fw.val_assign rfl) rfl ?_
  refine Fw.nilQ ?_
  intro w7 hb
  replace Hn := Hn.low hb
  replace Hq := Hq.low hb
  replace HB := HB.trans (hb.mono HB.size)
  clear hb
  refine hK4 _ _ (Fw.FC.sub (f' := [(7, _), (6, _)]) (.cons rfl (.cons rfl .nil)) ?_)
  refine Fw.ret ?_
  refine Fw.ret_ [.tmp 6, .tmp 7] [_, _] Try.results10 (.tmp rfl (.tmp rfl .nil)) ?_
  rw [decide_eq_false (show ¬ ((0 ≤ u ∧ u ≤ 255) ∧ (0 ≤ v ∧ v < Nn)) by omega)]
  exact ⟨gq, rfl, lgq, Hq, HB⟩
  rintro k1
  refine Fw.q (Fw.val_move rfl) rfl ?_
  refine Fw.gFQ (d := 22) rfl rfl rfl rfl ?_
  refine Fw.gFQ (d := 22) rfl rfl rfl rfl ?_
  refine Fw.q (Fw.val_pickF rfl rfl) rfl ?_
  refine Fw.q (Fw.val_move rfl) rfl ?_
  refine Fw.gFQ (d := 26) rfl rfl rfl rfl ?_
  refine Fw.gFQ (d := 26) rfl rfl rfl rfl ?_
  refine Fw.q (Fw.val_pickF rfl rfl) rfl ?_
  refine Fw.q (Fw.val_move rfl) rfl ?_
  refine Fw.gFQ (d := 30) rfl rfl rfl rfl ?_
  refine Fw.gFQ (d := 30) rfl rfl rfl rfl ?_
  refine Fw.gFQ (d := 30) rfl rfl rfl rfl ?_
  refine Fw.gFQ (d := 30) rfl rfl rfl rfl ?_
  refine Fw.q (Fw.val_pickF rfl rfl) rfl ?_
  refine Fw.q (Fw.val_assign rfl) rfl ?_
  refine Fw.q (Fw.val_assign rfl) rfl ?_
  refine Fw.nilQ ?_
  intro w8 hb
  replace Hn := Hn.low hb
  replace Hq := Hq.low hb
  replace HB := HB.trans (hb.mono HB.size)
  clear hb
  refine hK4 _ _ (Fw.FC.sub (f' := [(7, _), (6, _)]) (.cons rfl (.cons rfl .nil)) ?_)
  refine Fw.ret ?_
  refine Fw.ret_ [.tmp 6, .tmp 7] [_, _] Try.results10 (.tmp rfl (.tmp rfl .nil)) ?_
  rw [decide_eq_false (show ¬ ((0 ≤ u ∧ u ≤ 255) ∧ (0 ≤ v ∧ v < Nn)) by omega)]
  exact ⟨gq, rfl, lgq, Hq, HB⟩

/-- the radio that New makes of a valid net -/
theorem RaAt.new {w : World} {B q N : Nat} {E : List Rg.Ed} {u : Int} {v : Nat} {Ae : Option Addr} {ce : Nat} (hB : B ≤ q) (hE : ELow w B Ae E) (hn : Rg.Net N E) (hv : v < N) (h : Blk w q 50 #[.int .i64 (N : Int), .slice Ae E.length ce, .int .i64 u, .int .i64 0, .int .i64 0, .int .i64 0, .int .i64 0, .int .i64 0, .int .i64 1, .int .i64 (v : Int), .int .i64 0, .int .i64 (v : Int), .slice none 0 0, .int .i64 0, .int .i64 0, .int .i64 0, .int .i64 0, .int .i64 0, .int .i64 0, .int .i64 0, .int .i64 0]) : RaAt w B q N E u Ae ce 0 (Or.new u) :=
  ⟨hB, 1, v, 0, v, [], none, 0, 0, ⟨0, 0, 0, 0, 0⟩, 0, h, Fw.RdT.nil _ _, Nat.zero_le _, hE, ⟨hn, hv, hv, fun i hi => (by cases hi), ⟨Int.le_refl _, fun i l e => by cases e⟩, ⟨Int.le_refl _, by decide⟩, ⟨Int.le_refl _, Int.le_refl _⟩, rfl⟩⟩
end Go.Proofs.Ytmacmlgjejdhpaa
