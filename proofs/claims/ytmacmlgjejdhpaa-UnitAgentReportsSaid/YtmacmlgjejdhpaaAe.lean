/- Layer 29: the radio's methods. -/
import Derived.Test.YtmacmlgjejdhpaaAd
namespace Go.Proofs.Ytmacmlgjejdhpaa
set_option linter.unusedSimpArgs false
set_option linter.unusedVariables false
open Go.RowKit

theorem RaOk.drove {N : Nat} {E : List Rg.Ed} {u : Int} {v d j : Nat} {l : List Nat} {sp mn r : Int} {mg : Or.F} (h : RaOk N E u v d (j :: l) sp mn r mg) (hj : j < E.length) : RaOk N E u E[j].t d l 0 mn r mg :=
  ⟨h.net, (h.net.ok _ (List.getElem_mem hj)).2, h.hd, fun i hi => h.hp i (by simp [hi]), ⟨Int.le_refl _, fun i l' e => by
    obtain ⟨h1, h2⟩ := h.hp i (by rw [e]; simp)
    rw [Rg.ed_at h1]; omega⟩, h.hmn, h.hr, h.gu⟩
theorem RaOk.spent {N : Nat} {E : List Rg.Ed} {u : Int} {v d j : Nat} {l : List Nat} {sp sp' mn r : Int} {mg : Or.F} (h : RaOk N E u v d (j :: l) sp mn r mg) (hj : j < E.length) (h0 : 0 ≤ sp') (h1 : sp' ≤ E[j].m) : RaOk N E u v d (j :: l) sp' mn r mg :=
  ⟨h.net, h.hv, h.hd, h.hp, ⟨h0, fun i l' e => by injection e with e1 e2; subst e1; rw [Rg.ed_at hj]; exact h1⟩, h.hmn, h.hr, h.gu⟩
theorem RaOk.gate {N : Nat} {E : List Rg.Ed} {u : Int} {v d : Nat} {pp : List Nat} {sp mn r : Int} {mg mg' : Or.F} (h : RaOk N E u v d pp sp mn r mg) (hu : mg'.u = mg.u) : RaOk N E u v d pp sp mn r mg' :=
  ⟨h.net, h.hv, h.hd, h.hp, h.hsp, h.hmn, h.hr, by rw [hu]; exact h.gu⟩
theorem RaOk.said {N : Nat} {E : List Rg.Ed} {u : Int} {v d : Nat} {pp : List Nat} {sp mn r : Int} {mg : Or.F} (h : RaOk N E u v d pp sp mn r mg) : RaOk N E u v d pp sp mn mn mg :=
  ⟨h.net, h.hv, h.hd, h.hp, h.hsp, h.hmn, ⟨h.hmn.1, Int.le_refl _⟩, h.gu⟩
theorem Or.tk_u (f : Or.F) (o : Or.O) : (Or.tk f o).u = f.u := by unfold Or.tk; split <;> rfl
set_option maxRecDepth 100000 in
set_option maxHeartbeats 4000000 in
theorem tick_any (w : World) (B q N : Nat) (E : List Rg.Ed) (u : Int) (Ae : Option Addr) (ce : Nat) (mn : Int) (mg : Or.F) (t : Int) (h : RaAt w B q N E u Ae ce mn mg) : Calls Try.prog 41 #[.pointer (some ⟨q, 0, none⟩), .int .i64 t] w fun e_ w' => e_ = .returned (.tuple #[]) ∧ RaAt w' B q N E u Ae ce (max mn (Ag.cl t)) mg ∧ Chg (· = q) w w' := by
  obtain ⟨hBq, s, v, i, d, pp, A, c, sp, l, r, HR, HP, hpc, HE, ho⟩ := h
  have hql := HR.lt
  have htc := Ag.cl_le t
  have hmn := ho.hmn
  obtain ⟨m, hm⟩ : ∃ m_, m_ = Ag.cl t := ⟨_, rfl⟩
  rw [← hm] at htc
  refine Fw.calls Try.func41 rfl Try.ntmps41 rfl ?_
  have HC := Chg.refl (· = q) w
  refine Fw.seq fun _ hK1 => ?_
  refine Fw.region ?_
  refine Fw.s (Fw.val_move rfl) rfl ?_
  refine Fw.call cf57 rfl rfl ((hm ▸ hold_any t _)) ?_
  rintro e_ _ ⟨rfl, rfl⟩
  refine ⟨_, rfl, ?_⟩
  refine Fw.s (Fw.val_assign rfl) rfl ?_
  refine Fw.nil ?_
  refine hK1 _ _ ?_
  refine Fw.seq fun _ hK2 => ?_
  refine Fw.seq fun _ hK3 => ?_
  refine Fw.region ?_
  refine Fw.s (Fw.val_move rfl) rfl ?_
  refine Fw.s (Fw.val_move rfl) rfl ?_
  refine Fw.s (Fw.val_nil rfl) rfl ?_
  refine Fw.s (Fw.val_fieldAddr fl50_8 rfl rfl) rfl ?_
  refine Fw.ld sc2 rfl (HR.cell 14) rfl ?_
  refine Fw.s2 (Fw.val_bin rfl rfl Fw.b_leq) rfl ?_ ?_
  rintro hle
  refine Fw.nil ?_
  refine hK3 _ _ (Fw.FC.sub (f' := [(13, _), (1, _), (0, _)]) (.cons rfl (.cons rfl (.cons rfl .nil))) ?_)
  refine Fw.condT rfl ?_
  refine Fw.ret ?_
  refine Fw.X_ret ?_
  refine Fw.ret_ [] [] Try.results41 .nil ?_
  have e : (max mn (Ag.cl t)) = mn := by rw [← hm]; omega
  rw [e]
  exact ⟨rfl, ⟨hBq, s, v, i, d, pp, A, c, sp, l, r, HR, HP, hpc, HE, ho⟩, HC⟩
  rintro hle
  refine Fw.nil ?_
  refine hK3 _ _ (Fw.FC.sub (f' := [(13, _), (1, _), (0, _)]) (.cons rfl (.cons rfl (.cons rfl .nil))) ?_)
  refine Fw.condF rfl ?_
  refine Fw.skip ?_
  refine hK2 _ _ ?_
  refine Fw.seq fun _ hK5 => ?_
  refine Fw.region ?_
  refine Fw.s (Fw.val_move rfl) rfl ?_
  refine Fw.s (Fw.val_move rfl) rfl ?_
  refine Fw.s (Fw.val_nil rfl) rfl ?_
  refine Fw.s (Fw.val_fieldAddr fl50_8 rfl rfl) rfl ?_
  refine Fw.ld sc2 rfl (HR.cell 14) rfl ?_
  refine Fw.s (Fw.val_bin rfl rfl (Fw.b_sub (Fw.i64_ok (by omega)))) rfl ?_
  refine Fw.s (Fw.val_assign rfl) rfl ?_
  refine Fw.nil ?_
  refine hK5 _ _ (Fw.FC.sub (f' := [(4, _), (1, _), (0, _)]) (.cons rfl (.cons rfl (.cons rfl .nil))) ?_)
  refine Fw.seq fun _ hK6 => ?_
  refine Fw.region ?_
  refine Fw.s (Fw.val_move rfl) rfl ?_
  refine Fw.s (Fw.val_move rfl) rfl ?_
  refine Fw.s (Fw.val_nil rfl) rfl ?_
  refine Fw.s (Fw.val_fieldAddr fl50_8 rfl rfl) rfl ?_
  refine Fw.store sz2 rfl rfl HR rfl rfl rfl ?_
  intro w1 N_ hc
  replace HP := HP.chg hc (Fw.RdT.ne_ HP HR (by decide))
  replace HE := HE.below (hc.below (B := B) (fun k e => by omega) HE.1)
  replace HC := HC.trans hc (fun k hk_ e => by first | exact e | (left; exact e) | (right; exact e) | (exfalso; omega))
  clear hc
  clear HR
  have HR := N_
  clear N_
  replace HR : Blk w1 q 50 #[.int .i64 (N : Int), .slice Ae E.length ce, .int .i64 mg.u, .int .i64 mg.o.u, .int .i64 mg.o.e, .int .i64 mg.o.k, .int .i64 mg.o.i, .int .i64 mg.o.n, .int .i64 s, .int .i64 (v : Int), .int .i64 i, .int .i64 (d : Int), .slice A pp.length c, .int .i64 sp, .int .i64 m, .int .i64 l.u, .int .i64 l.q, .int .i64 l.s, .int .i64 l.n, .int .i64 l.e, .int .i64 r] := HR
  refine Fw.nil ?_
  refine hK6 _ _ ?_
  refine Fw.seq fun _ hK7 => ?_
  refine Fw.block ?_
  replace ho := ho.time (mn' := m) (by omega) (by omega)
  refine Fw.loop (fun m_ f_ W_ => ∃ (pp_ : List Nat) (v_ : Nat) (sp_ : Int) (left_ : Int) (A_ : Option Addr) (c_ : Nat), m_ = pp_.length ∧ RaOk N E u v_ d pp_ sp_ m r mg ∧ (0 ≤ left_ ∧ left_ ≤ 1099511627776) ∧ pp_.length ≤ c_ ∧ Blk W_ q 50 #[.int .i64 (N : Int), .slice Ae E.length ce, .int .i64 mg.u, .int .i64 mg.o.u, .int .i64 mg.o.e, .int .i64 mg.o.k, .int .i64 mg.o.i, .int .i64 mg.o.n, .int .i64 s, .int .i64 (v_ : Int), .int .i64 i, .int .i64 (d : Int), .slice A_ pp_.length c_, .int .i64 sp_, .int .i64 m, .int .i64 l.u, .int .i64 l.q, .int .i64 l.s, .int .i64 l.n, .int .i64 l.e, .int .i64 r] ∧ Fw.RdT W_ 3 A_ (Rg.ints pp_) ∧ ELow W_ B Ae E ∧ Chg (· = q) w W_ ∧ f_ = [(4, .int .i64 left_), (0, .pointer (some ⟨q, 0, none⟩))]) ⟨_, _, ⟨pp, v, sp, (m - mn), A, c, rfl, ho, ⟨by omega, by omega⟩, hpc, HR, HP, HE, HC, rfl⟩, (.cons rfl (.cons rfl .nil))⟩ ?_
  clear HR HP HE HC
  rintro m8_ _ w2 ⟨pp_, v_, sp_, left_, A_, c_, hm8_, ho, hlf, hpc, HR, HP, HE, HC, rfl⟩
  refine Fw.seq fun _ hK9 => ?_
  refine Fw.seq fun _ hK10 => ?_
  refine Fw.region ?_
  refine Fw.s (Fw.val_move rfl) rfl ?_
  refine Fw.s (Fw.val_nil rfl) rfl ?_
  refine Fw.s (Fw.val_fieldAddr fl50_6 rfl rfl) rfl ?_
  refine Fw.ld sc46 rfl (HR.cell 12) rfl ?_
  refine Fw.s (Fw.val_len Try.underlying46 rfl) rfl ?_
  refine Fw.s2 (Fw.val_bin rfl rfl Fw.b_gtr) rfl ?_ ?_
  rintro hlen
  refine Fw.s (Fw.val_move rfl) rfl ?_
  refine Fw.gT (d := 30) rfl rfl ?_
  refine Fw.s (Fw.val_move rfl) rfl ?_
  refine Fw.gT (d := 30) rfl rfl ?_
  refine Fw.s2 (Fw.val_bin rfl rfl Fw.b_gtr) rfl ?_ ?_
  rintro hl0
  refine Fw.s (Fw.val_pickT rfl rfl) rfl ?_
  refine Fw.nil ?_
  refine hK10 _ _ (Fw.FC.sub (f' := [(33, _), (32, _), (31, _), (4, _), (0, _)]) (.cons rfl (.cons rfl (.cons rfl (.cons rfl (.cons rfl .nil))))) ?_)
  refine Fw.condT rfl ?_
  refine Fw.skip ?_
  refine hK9 _ _ ?_
  refine Fw.block ?_
  refine Fw.seq fun _ hK13 => ?_
  obtain ⟨j, l_, rfl⟩ : ∃ j l_, pp_ = j :: l_ := by
    cases pp_ with
    | nil => simp at hlen
    | cons j l_ => exact ⟨j, l_, rfl⟩
  obtain ⟨hjl, hm1⟩ := ho.hp j (by simp)
  have hsp1 := ho.hsp.1
  have hsp2 := ho.hsp.2 j l_ rfl
  rw [Rg.ed_at hjl] at hsp2
  obtain ⟨ad, b_, o_, hA, hadd, HI⟩ := Fw.rdAtM (c := fun (x : Nat) => Value.int .i64 (x : Int)) (l := j :: l_) HP.1 0 (by simp)
  replace HI : World.cell? w2 ⟨b_, o_, none⟩ = some (.int .i64 (j : Int)) := HI
  obtain ⟨ad2, b2_, o2_, hA2, hadd2, HEe⟩ := Fw.rdAt Rg.Ed.len (by decide) HE.rd j hjl
  refine Fw.regionH (by kernel_rfl) ?_
  have R_HR := HR
  have R_HI := HI
  have R_HEe := HEe
  intro w3 hb
  have HS := hb
  replace HR := HR.low hb
  replace HP := HP.low hb
  replace HE := HE.below (hb.mono HE.1)
  replace HI := (hb.cell (World.block_lt_of_cell? _ _ HI)).trans HI
  replace HEe := HEe.low hb
  replace HC := HC.trans (Chg.of_below hb (· = q)) (fun _ _ h => h)
  clear hb
  refine Fw.hTk 0 rfl rfl (Fw.yV (Fw.val_move rfl)) rfl ?_
  refine Fw.hTk 1 rfl rfl (Fw.yV (Fw.val_nil rfl)) rfl ?_
  refine Fw.hTk 2 rfl rfl (Fw.yV (Fw.val_fieldAddr fl50_0 rfl rfl)) rfl ?_
  refine Fw.hTk 3 rfl rfl (Fw.yV (Fw.val_fieldAddr fl24_1 rfl rfl)) rfl ?_
  refine Fw.hTk 4 rfl rfl (Fw.yV (Fw.hLd sc22 rfl (R_HR.cell 1))) rfl ?_
  refine Fw.hTk 5 rfl rfl (Fw.yV (Fw.val_move rfl)) rfl ?_
  refine Fw.hTk 6 rfl rfl (Fw.yV (Fw.val_nil rfl)) rfl ?_
  refine Fw.hTk 7 rfl rfl (Fw.yV (Fw.val_fieldAddr fl50_6 rfl rfl)) rfl ?_
  refine Fw.hTk 8 rfl rfl (Fw.yV (Fw.hLd sc46 rfl (R_HR.cell 12))) rfl ?_
  refine Fw.hTk 9 rfl rfl (Fw.yV (Fw.val_indexR Try.underlying46 sz3 rfl hA rfl (show (0 : Int) = ((0 : Nat) : Int) from rfl) (by simp) hadd)) rfl ?_
  refine Fw.hTk 10 rfl rfl (Fw.yV (Fw.hLd sc3 rfl (R_HI))) rfl ?_
  refine Fw.hTk 11 rfl rfl (Fw.yV (Fw.val_indexR Try.underlying22 sz75 rfl hA2 rfl rfl hjl hadd2)) rfl ?_
  refine Fw.hTk 12 rfl rfl (Fw.yV (Fw.hLdA ag75 rfl (R_HEe) rfl)) rfl ?_
  refine Fw.hAll1 13 (by kernel_rfl) ?_
  refine Fw.hOp 13 rfl ?_
  refine Fw.alloc ze75 rfl ?_
  intro w4 ge ege He hb
  have rge : w2.heap.size ≤ ge := by have := HS.size; omega
  have n_q_ge : q < ge := by have := HR.lt; omega
  have lge : w.heap.size ≤ ge := by have := HC.size; omega
  replace HR := HR.low hb
  replace HP := HP.low hb
  replace HE := HE.below (hb.mono HE.1)
  replace HI := (hb.cell (World.block_lt_of_cell? _ _ HI)).trans HI
  replace HEe := HEe.low hb
  replace HS := HS.trans (hb.mono HS.size)
  replace HC := HC.trans (Chg.of_below hb (· = q)) (fun _ _ h => h)
  clear hb
  clear ege
  refine Fw.hNext HS ?_
  refine Fw.hAll1 14 (by kernel_rfl) ?_
  refine Fw.hOp 14 rfl ?_
  refine Fw.storeW sz75 rfl rfl He rfl rfl (by exact Fw.oneCells rfl) ?_
  intro w5 N_ hc
  replace HR := HR.chg hc (by omega)
  replace HP := HP.chg hc (Fw.RdT.ne_ HP He (by decide))
  replace HE := HE.below (hc.below (B := B) (fun k e => by omega) HE.1)
  replace HI := cell_chg HI hc (by have h_ := World.block_lt_of_cell? _ _ R_HI; have h_ : b_ < _ := h_; show ¬ b_ = ge; omega)
  replace HEe := R_HEe.low (HS.trans (hc.below (B := w2.heap.size) (fun k e => by omega) HS.size))
  replace HS := HS.trans (hc.below (B := w2.heap.size) (fun k e => by omega) HS.size)
  replace HC := HC.trans hc (fun k hk_ e => by first | exact e | (left; exact e) | (right; exact e) | (exfalso; omega))
  clear hc
  clear He
  have He := N_
  clear N_
  replace He : Blk w5 ge 75 #[.int .i64 (E[j].f : Int), .int .i64 (E[j].t : Int), .int .i64 E[j].m] := He
  refine Fw.hNext HS ?_
  refine Fw.hDone (by kernel_rfl) ?_
  refine hK13 _ _ (Fw.FC.sub (f' := [(5, _), (32, _), (31, _), (4, _), (0, _)]) (.cons rfl (.cons rfl (.cons rfl (.cons rfl (.cons rfl .nil))))) ?_)
  refine Fw.seq fun _ hK16 => ?_
  refine Fw.seq fun _ hK17 => ?_
  clear HI HEe
  refine Fw.regionQ (by kernel_rfl) (by kernel_rfl) ?_
  refine Fw.q (Fw.val_move rfl) rfl ?_
  refine Fw.q (Fw.val_nil rfl) rfl ?_
  refine Fw.q (Fw.val_fieldAddr fl50_7 rfl rfl) rfl ?_
  refine Fw.ldQ sc2 rfl (HR.cell 13) rfl ?_
  refine Fw.q (Fw.val_move rfl) rfl ?_
  refine Fw.q (Fw.val_bin rfl rfl (Fw.b_add (Fw.i64_ok (by omega)))) rfl ?_
  refine Fw.q (Fw.val_fieldAddr fl75_2 rfl rfl) rfl ?_
  refine Fw.ldQ sc2 rfl (He.cell 2) rfl ?_
  refine Fw.q2 (Fw.val_bin rfl rfl Fw.b_lss) rfl ?_ ?_
  rintro hlt
  refine Fw.nilQ ?_
  intro w6 hb
  replace HR := HR.low hb
  replace HP := HP.low hb
  replace HE := HE.below (hb.mono HE.1)
  replace He := He.low hb
  replace HC := HC.trans (Chg.of_below hb (· = q)) (fun _ _ h => h)
  clear hb
  refine hK17 _ _ (Fw.FC.sub (f' := [(55, _), (5, _), (32, _), (31, _), (4, _), (0, _)]) (.cons rfl (.cons rfl (.cons rfl (.cons rfl (.cons rfl (.cons rfl .nil)))))) ?_)
  refine Fw.condT rfl ?_
  refine Fw.seq fun _ hK19 => ?_
  refine Fw.region ?_
  refine Fw.s (Fw.val_move rfl) rfl ?_
  refine Fw.s (Fw.val_move rfl) rfl ?_
  refine Fw.s (Fw.val_nil rfl) rfl ?_
  refine Fw.s (Fw.val_fieldAddr fl50_7 rfl rfl) rfl ?_
  refine Fw.ld sc2 rfl (HR.cell 13) rfl ?_
  refine Fw.s (Fw.val_move rfl) rfl ?_
  refine Fw.s (Fw.val_bin rfl rfl (Fw.b_add (Fw.i64_ok (by omega)))) rfl ?_
  refine Fw.s (Fw.val_nil rfl) rfl ?_
  refine Fw.s (Fw.val_fieldAddr fl50_7 rfl rfl) rfl ?_
  refine Fw.store sz2 rfl rfl HR rfl rfl rfl ?_
  intro w7 N_ hc
  replace HP := HP.chg hc (Fw.RdT.ne_ HP HR (by decide))
  replace HE := HE.below (hc.below (B := B) (fun k e => by omega) HE.1)
  replace He := He.chg hc (by omega)
  replace HC := HC.trans hc (fun k hk_ e => by first | exact e | (left; exact e) | (right; exact e) | (exfalso; omega))
  clear hc
  clear HR
  have HR := N_
  clear N_
  replace HR : Blk w7 q 50 #[.int .i64 (N : Int), .slice Ae E.length ce, .int .i64 mg.u, .int .i64 mg.o.u, .int .i64 mg.o.e, .int .i64 mg.o.k, .int .i64 mg.o.i, .int .i64 mg.o.n, .int .i64 s, .int .i64 (v_ : Int), .int .i64 i, .int .i64 (d : Int), .slice A_ (j :: l_).length c_, .int .i64 (sp_ + left_), .int .i64 m, .int .i64 l.u, .int .i64 l.q, .int .i64 l.s, .int .i64 l.n, .int .i64 l.e, .int .i64 r] := HR
  refine Fw.nil ?_
  refine hK19 _ _ (Fw.FC.sub (f' := []) .nil ?_)
  refine Fw.ret ?_
  refine Fw.X_ret ?_
  refine Fw.X_blockR ?_
  refine Fw.X_ret ?_
  refine Fw.X_blockR ?_
  refine Fw.X_ret ?_
  refine Fw.ret_ [] [] Try.results41 .nil ?_
  have e : (max mn (Ag.cl t)) = m := by rw [← hm]; omega
  rw [e]
  exact ⟨rfl, ⟨hBq, s, v_, i, d, j :: l_, A_, c_, sp_ + left_, l, r, HR, HP, hpc, HE, ho.spent hjl (by omega) (by omega)⟩, HC⟩
  rintro hlt
  refine Fw.nilQ ?_
  intro w8 hb
  replace HR := HR.low hb
  replace HP := HP.low hb
  replace HE := HE.below (hb.mono HE.1)
  replace He := He.low hb
  replace HC := HC.trans (Chg.of_below hb (· = q)) (fun _ _ h => h)
  clear hb
  refine hK17 _ _ (Fw.FC.sub (f' := [(55, _), (5, _), (32, _), (31, _), (4, _), (0, _)]) (.cons rfl (.cons rfl (.cons rfl (.cons rfl (.cons rfl (.cons rfl .nil)))))) ?_)
  refine Fw.condF rfl ?_
  refine Fw.skip ?_
  refine hK16 _ _ ?_
  refine Fw.seq fun _ hK20 => ?_
  refine Fw.regionQ (by kernel_rfl) (by kernel_rfl) ?_
  refine Fw.q (Fw.val_move rfl) rfl ?_
  refine Fw.q (Fw.val_fieldAddr fl75_2 rfl rfl) rfl ?_
  refine Fw.ldQ sc2 rfl (He.cell 2) rfl ?_
  refine Fw.q (Fw.val_move rfl) rfl ?_
  refine Fw.q (Fw.val_nil rfl) rfl ?_
  refine Fw.q (Fw.val_fieldAddr fl50_7 rfl rfl) rfl ?_
  refine Fw.ldQ sc2 rfl (HR.cell 13) rfl ?_
  refine Fw.q (Fw.val_bin rfl rfl (Fw.b_sub (Fw.i64_ok (by omega)))) rfl ?_
  refine Fw.q (Fw.val_bin rfl rfl (Fw.b_sub (Fw.i64_ok (by omega)))) rfl ?_
  refine Fw.q (Fw.val_assign rfl) rfl ?_
  refine Fw.nilQ ?_
  intro w9 hb
  replace HR := HR.low hb
  replace HP := HP.low hb
  replace HE := HE.below (hb.mono HE.1)
  replace He := He.low hb
  replace HC := HC.trans (Chg.of_below hb (· = q)) (fun _ _ h => h)
  clear hb
  refine hK20 _ _ (Fw.FC.sub (f' := [(4, _), (5, _), (32, _), (31, _), (0, _)]) (.cons rfl (.cons rfl (.cons rfl (.cons rfl (.cons rfl .nil))))) ?_)
  refine Fw.regionHS (Chg (· = q) w9) (by kernel_rfl) (Chg.of_below (Fw.drew_low w9) _) ?_
  have R_HR := HR
  have R_He := He
  intro w10 hb HS
  replace HR := HR.low hb
  replace HP := HP.low hb
  replace HE := HE.below (hb.mono HE.1)
  replace He := He.low hb
  replace HC := HC.trans (Chg.of_below hb (· = q)) (fun _ _ h => h)
  clear hb
  refine Fw.hTk 0 rfl rfl (Fw.yV (Fw.val_move rfl)) rfl ?_
  refine Fw.hTk 1 rfl rfl (Fw.yV (Fw.val_move rfl)) rfl ?_
  refine Fw.hTk 2 rfl rfl (Fw.yV (Fw.val_move rfl)) rfl ?_
  refine Fw.hTk 3 rfl rfl (Fw.yV (Fw.val_fieldAddr fl75_1 rfl rfl)) rfl ?_
  refine Fw.hTk 4 rfl rfl (Fw.yV (Fw.hLdC sc3 rfl (R_He.cell 1) (by show ¬ ge = q; omega))) rfl ?_
  refine Fw.hTk 5 rfl rfl (Fw.yV (Fw.val_move rfl)) rfl ?_
  refine Fw.hTk 6 rfl rfl (Fw.yV (Fw.val_nil rfl)) rfl ?_
  refine Fw.hTk 7 rfl rfl (Fw.yV (Fw.val_fieldAddr fl50_6 rfl rfl)) rfl ?_
  refine Fw.hAll1 8 (by kernel_rfl) ?_
  refine Fw.hOp 8 rfl ?_
  refine Fw.ld sc46 rfl (HR.cell 12) rfl ?_
  refine Fw.hNext HS ?_
  refine Fw.hTk 10 rfl rfl (Fw.yV (Fw.val_nil rfl)) rfl ?_
  refine Fw.hTk 11 rfl rfl (Fw.yV (Fw.val_fieldAddr fl50_3 rfl rfl)) rfl ?_
  refine Fw.hAll2 9 12 (by kernel_rfl) ?_ ?_
  refine Fw.hOp 9 rfl ?_
  refine Fw.s (Fw.val_sliceFrom Try.underlying46 sz3 rfl rfl (show (1 : Int) = ((1 : Nat) : Int) from rfl) (by simp)) rfl ?_
  refine Fw.hNext HS ?_
  refine Fw.hAll1 12 (by kernel_rfl) ?_
  refine Fw.hOp 12 rfl ?_
  refine Fw.store sz3 rfl rfl HR rfl rfl rfl ?_
  intro w11 N_ hc
  replace HP := HP.chg hc (Fw.RdT.ne_ HP HR (by decide))
  replace HE := HE.below (hc.below (B := B) (fun k e => by omega) HE.1)
  replace He := He.chg hc (by omega)
  replace HS := HS.trans hc (fun _ _ h => h)
  replace HC := HC.trans hc (fun k hk_ e => by first | exact e | (left; exact e) | (right; exact e) | (exfalso; omega))
  clear hc
  clear HR
  have HR := N_
  clear N_
  replace HR : Blk w11 q 50 #[.int .i64 (N : Int), .slice Ae E.length ce, .int .i64 mg.u, .int .i64 mg.o.u, .int .i64 mg.o.e, .int .i64 mg.o.k, .int .i64 mg.o.i, .int .i64 mg.o.n, .int .i64 s, .int .i64 (E[j].t : Int), .int .i64 i, .int .i64 (d : Int), .slice A_ (j :: l_).length c_, .int .i64 sp_, .int .i64 m, .int .i64 l.u, .int .i64 l.q, .int .i64 l.s, .int .i64 l.n, .int .i64 l.e, .int .i64 r] := HR
  refine Fw.hNext HS ?_
  refine Fw.hTk 13 rfl rfl (Fw.yV (Fw.val_nil rfl)) rfl ?_
  refine Fw.hTk 14 rfl rfl (Fw.yV (Fw.val_fieldAddr fl50_7 rfl rfl)) rfl ?_
  refine Fw.hAll1 15 (by kernel_rfl) ?_
  refine Fw.hOp 15 rfl ?_
  refine Fw.store sz2 rfl rfl HR rfl rfl rfl ?_
  intro w12 N_ hc
  replace HP := HP.chg hc (Fw.RdT.ne_ HP HR (by decide))
  replace HE := HE.below (hc.below (B := B) (fun k e => by omega) HE.1)
  replace He := He.chg hc (by omega)
  replace HS := HS.trans hc (fun _ _ h => h)
  replace HC := HC.trans hc (fun k hk_ e => by first | exact e | (left; exact e) | (right; exact e) | (exfalso; omega))
  clear hc
  clear HR
  have HR := N_
  clear N_
  replace HR : Blk w12 q 50 #[.int .i64 (N : Int), .slice Ae E.length ce, .int .i64 mg.u, .int .i64 mg.o.u, .int .i64 mg.o.e, .int .i64 mg.o.k, .int .i64 mg.o.i, .int .i64 mg.o.n, .int .i64 s, .int .i64 (E[j].t : Int), .int .i64 i, .int .i64 (d : Int), .slice A_ (j :: l_).length c_, .int .i64 0, .int .i64 m, .int .i64 l.u, .int .i64 l.q, .int .i64 l.s, .int .i64 l.n, .int .i64 l.e, .int .i64 r] := HR
  refine Fw.hNext HS ?_
  refine Fw.hTk 16 rfl rfl (Fw.yV (Fw.val_nil rfl)) rfl ?_
  refine Fw.hTk 17 rfl rfl (Fw.yV (Fw.val_fieldAddr fl50_6 rfl rfl)) rfl ?_
  refine Fw.hAll1 18 (by kernel_rfl) ?_
  refine Fw.hOp 18 rfl ?_
  refine Fw.store sz46 rfl rfl HR rfl rfl rfl ?_
  intro w13 N_ hc
  replace HP := HP.chg hc (Fw.RdT.ne_ HP HR (by decide))
  replace HE := HE.below (hc.below (B := B) (fun k e => by omega) HE.1)
  replace He := He.chg hc (by omega)
  replace HS := HS.trans hc (fun _ _ h => h)
  replace HC := HC.trans hc (fun k hk_ e => by first | exact e | (left; exact e) | (right; exact e) | (exfalso; omega))
  clear hc
  clear HR
  have HR := N_
  clear N_
  replace HR : Blk w13 q 50 #[.int .i64 (N : Int), .slice Ae E.length ce, .int .i64 mg.u, .int .i64 mg.o.u, .int .i64 mg.o.e, .int .i64 mg.o.k, .int .i64 mg.o.i, .int .i64 mg.o.n, .int .i64 s, .int .i64 (E[j].t : Int), .int .i64 i, .int .i64 (d : Int), .slice (cutA A_ c_ 1 1) l_.length (c_ - 1), .int .i64 0, .int .i64 m, .int .i64 l.u, .int .i64 l.q, .int .i64 l.s, .int .i64 l.n, .int .i64 l.e, .int .i64 r] := HR
  refine Fw.hNext HS ?_
  refine Fw.hDone (by kernel_rfl) ?_
  refine Fw.X_blockN ?_
  replace HP := HP.cut (by simpa using hpc)
  refine Fw.roundEnd _ _ (by have q_ : (j :: l_).length = l_.length + 1 := rfl; omega) ⟨l_, E[j].t, 0, (left_ - (E[j].m - sp_)), (cutA A_ c_ 1 1), (c_ - 1), rfl, ho.drove hjl, ⟨by omega, by omega⟩, by simp only [List.length_cons] at hpc; omega, HR, HP, HE, HC, rfl⟩ (.cons rfl (.cons rfl .nil))
  refine Fw.hOp 12 rfl ?_
  refine Fw.store sz3 rfl rfl HR rfl rfl rfl ?_
  intro w14 N_ hc
  replace HP := HP.chg hc (Fw.RdT.ne_ HP HR (by decide))
  replace HE := HE.below (hc.below (B := B) (fun k e => by omega) HE.1)
  replace He := He.chg hc (by omega)
  replace HS := HS.trans hc (fun _ _ h => h)
  replace HC := HC.trans hc (fun k hk_ e => by first | exact e | (left; exact e) | (right; exact e) | (exfalso; omega))
  clear hc
  clear HR
  have HR := N_
  clear N_
  replace HR : Blk w14 q 50 #[.int .i64 (N : Int), .slice Ae E.length ce, .int .i64 mg.u, .int .i64 mg.o.u, .int .i64 mg.o.e, .int .i64 mg.o.k, .int .i64 mg.o.i, .int .i64 mg.o.n, .int .i64 s, .int .i64 (E[j].t : Int), .int .i64 i, .int .i64 (d : Int), .slice A_ (j :: l_).length c_, .int .i64 sp_, .int .i64 m, .int .i64 l.u, .int .i64 l.q, .int .i64 l.s, .int .i64 l.n, .int .i64 l.e, .int .i64 r] := HR
  refine Fw.hNext HS ?_
  refine Fw.hTk 13 rfl rfl (Fw.yV (Fw.val_nil rfl)) rfl ?_
  refine Fw.hTk 14 rfl rfl (Fw.yV (Fw.val_fieldAddr fl50_7 rfl rfl)) rfl ?_
  refine Fw.hAll2 9 15 (by kernel_rfl) ?_ ?_
  refine Fw.hOp 9 rfl ?_
  refine Fw.s (Fw.val_sliceFrom Try.underlying46 sz3 rfl rfl (show (1 : Int) = ((1 : Nat) : Int) from rfl) (by simp)) rfl ?_
  refine Fw.hNext HS ?_
  refine Fw.hAll1 15 (by kernel_rfl) ?_
  refine Fw.hOp 15 rfl ?_
  refine Fw.store sz2 rfl rfl HR rfl rfl rfl ?_
  intro w15 N_ hc
  replace HP := HP.chg hc (Fw.RdT.ne_ HP HR (by decide))
  replace HE := HE.below (hc.below (B := B) (fun k e => by omega) HE.1)
  replace He := He.chg hc (by omega)
  replace HS := HS.trans hc (fun _ _ h => h)
  replace HC := HC.trans hc (fun k hk_ e => by first | exact e | (left; exact e) | (right; exact e) | (exfalso; omega))
  clear hc
  clear HR
  have HR := N_
  clear N_
  replace HR : Blk w15 q 50 #[.int .i64 (N : Int), .slice Ae E.length ce, .int .i64 mg.u, .int .i64 mg.o.u, .int .i64 mg.o.e, .int .i64 mg.o.k, .int .i64 mg.o.i, .int .i64 mg.o.n, .int .i64 s, .int .i64 (E[j].t : Int), .int .i64 i, .int .i64 (d : Int), .slice A_ (j :: l_).length c_, .int .i64 0, .int .i64 m, .int .i64 l.u, .int .i64 l.q, .int .i64 l.s, .int .i64 l.n, .int .i64 l.e, .int .i64 r] := HR
  refine Fw.hNext HS ?_
  refine Fw.hTk 16 rfl rfl (Fw.yV (Fw.val_nil rfl)) rfl ?_
  refine Fw.hTk 17 rfl rfl (Fw.yV (Fw.val_fieldAddr fl50_6 rfl rfl)) rfl ?_
  refine Fw.hAll1 18 (by kernel_rfl) ?_
  refine Fw.hOp 18 rfl ?_
  refine Fw.store sz46 rfl rfl HR rfl rfl rfl ?_
  intro w16 N_ hc
  replace HP := HP.chg hc (Fw.RdT.ne_ HP HR (by decide))
  replace HE := HE.below (hc.below (B := B) (fun k e => by omega) HE.1)
  replace He := He.chg hc (by omega)
  replace HS := HS.trans hc (fun _ _ h => h)
  replace HC := HC.trans hc (fun k hk_ e => by first | exact e | (left; exact e) | (right; exact e) | (exfalso; omega))
  clear hc
  clear HR
  have HR := N_
  clear N_
  replace HR : Blk w16 q 50 #[.int .i64 (N : Int), .slice Ae E.length ce, .int .i64 mg.u, .int .i64 mg.o.u, .int .i64 mg.o.e, .int .i64 mg.o.k, .int .i64 mg.o.i, .int .i64 mg.o.n, .int .i64 s, .int .i64 (E[j].t : Int), .int .i64 i, .int .i64 (d : Int), .slice (cutA A_ c_ 1 1) l_.length (c_ - 1), .int .i64 0, .int .i64 m, .int .i64 l.u, .int .i64 l.q, .int .i64 l.s, .int .i64 l.n, .int .i64 l.e, .int .i64 r] := HR
  refine Fw.hNext HS ?_
  refine Fw.hDone (by kernel_rfl) ?_
  refine Fw.X_blockN ?_
  replace HP := HP.cut (by simpa using hpc)
  refine Fw.roundEnd _ _ (by have q_ : (j :: l_).length = l_.length + 1 := rfl; omega) ⟨l_, E[j].t, 0, (left_ - (E[j].m - sp_)), (cutA A_ c_ 1 1), (c_ - 1), rfl, ho.drove hjl, ⟨by omega, by omega⟩, by simp only [List.length_cons] at hpc; omega, HR, HP, HE, HC, rfl⟩ (.cons rfl (.cons rfl .nil))
  refine Fw.hOp 15 rfl ?_
  refine Fw.store sz2 rfl rfl HR rfl rfl rfl ?_
  intro w17 N_ hc
  replace HP := HP.chg hc (Fw.RdT.ne_ HP HR (by decide))
  replace HE := HE.below (hc.below (B := B) (fun k e => by omega) HE.1)
  replace He := He.chg hc (by omega)
  replace HS := HS.trans hc (fun _ _ h => h)
  replace HC := HC.trans hc (fun k hk_ e => by first | exact e | (left; exact e) | (right; exact e) | (exfalso; omega))
  clear hc
  clear HR
  have HR := N_
  clear N_
  replace HR : Blk w17 q 50 #[.int .i64 (N : Int), .slice Ae E.length ce, .int .i64 mg.u, .int .i64 mg.o.u, .int .i64 mg.o.e, .int .i64 mg.o.k, .int .i64 mg.o.i, .int .i64 mg.o.n, .int .i64 s, .int .i64 (E[j].t : Int), .int .i64 i, .int .i64 (d : Int), .slice A_ (j :: l_).length c_, .int .i64 0, .int .i64 m, .int .i64 l.u, .int .i64 l.q, .int .i64 l.s, .int .i64 l.n, .int .i64 l.e, .int .i64 r] := HR
  refine Fw.hNext HS ?_
  refine Fw.hAll1 9 (by kernel_rfl) ?_
  refine Fw.hOp 9 rfl ?_
  refine Fw.s (Fw.val_sliceFrom Try.underlying46 sz3 rfl rfl (show (1 : Int) = ((1 : Nat) : Int) from rfl) (by simp)) rfl ?_
  refine Fw.hNext HS ?_
  refine Fw.hTk 16 rfl rfl (Fw.yV (Fw.val_nil rfl)) rfl ?_
  refine Fw.hTk 17 rfl rfl (Fw.yV (Fw.val_fieldAddr fl50_6 rfl rfl)) rfl ?_
  refine Fw.hAll1 18 (by kernel_rfl) ?_
  refine Fw.hOp 18 rfl ?_
  refine Fw.store sz46 rfl rfl HR rfl rfl rfl ?_
  intro w18 N_ hc
  replace HP := HP.chg hc (Fw.RdT.ne_ HP HR (by decide))
  replace HE := HE.below (hc.below (B := B) (fun k e => by omega) HE.1)
  replace He := He.chg hc (by omega)
  replace HS := HS.trans hc (fun _ _ h => h)
  replace HC := HC.trans hc (fun k hk_ e => by first | exact e | (left; exact e) | (right; exact e) | (exfalso; omega))
  clear hc
  clear HR
  have HR := N_
  clear N_
  replace HR : Blk w18 q 50 #[.int .i64 (N : Int), .slice Ae E.length ce, .int .i64 mg.u, .int .i64 mg.o.u, .int .i64 mg.o.e, .int .i64 mg.o.k, .int .i64 mg.o.i, .int .i64 mg.o.n, .int .i64 s, .int .i64 (E[j].t : Int), .int .i64 i, .int .i64 (d : Int), .slice (cutA A_ c_ 1 1) l_.length (c_ - 1), .int .i64 0, .int .i64 m, .int .i64 l.u, .int .i64 l.q, .int .i64 l.s, .int .i64 l.n, .int .i64 l.e, .int .i64 r] := HR
  refine Fw.hNext HS ?_
  refine Fw.hDone (by kernel_rfl) ?_
  refine Fw.X_blockN ?_
  replace HP := HP.cut (by simpa using hpc)
  refine Fw.roundEnd _ _ (by have q_ : (j :: l_).length = l_.length + 1 := rfl; omega) ⟨l_, E[j].t, 0, (left_ - (E[j].m - sp_)), (cutA A_ c_ 1 1), (c_ - 1), rfl, ho.drove hjl, ⟨by omega, by omega⟩, by simp only [List.length_cons] at hpc; omega, HR, HP, HE, HC, rfl⟩ (.cons rfl (.cons rfl .nil))
  rintro hl0
  refine Fw.s (Fw.val_pickT rfl rfl) rfl ?_
  refine Fw.nil ?_
  refine hK10 _ _ (Fw.FC.sub (f' := [(33, _), (32, _), (31, _), (4, _), (0, _)]) (.cons rfl (.cons rfl (.cons rfl (.cons rfl (.cons rfl .nil))))) ?_)
  refine Fw.condF rfl ?_
  refine Fw.exit ?_
  refine Fw.X_exit ?_
  refine Fw.X_exit ?_
  refine Fw.X_block ?_
  refine hK7 _ _ ?_
  refine Fw.region ?_
  refine Fw.s (Fw.val_move rfl) rfl ?_
  refine Fw.call cf56 rfl rfl (there_any _ B q N E u Ae ce m mg ⟨hBq, s, v_, i, d, pp_, A_, c_, sp_, l, r, HR, HP, hpc, HE, ho⟩) ?_
  rintro e_ w19 ⟨rfl, H2, hc⟩
  refine ⟨_, rfl, ?_⟩
  replace HC := HC.trans hc (fun k hk_ e => by first | exact e | (left; exact e) | (right; exact e) | (exfalso; omega))
  clear hc
  clear HR HP HE
  refine Fw.nil ?_
  refine Fw.end_ [] [] Try.results41 .nil ?_
  have e : (max mn (Ag.cl t)) = m := by rw [← hm]; omega
  rw [e]
  exact ⟨rfl, H2, HC⟩
  rintro hlen
  refine Fw.s (Fw.val_move rfl) rfl ?_
  refine Fw.gF (d := 30) rfl rfl rfl rfl ?_
  refine Fw.gF (d := 30) rfl rfl rfl rfl ?_
  refine Fw.s (Fw.val_pickF rfl rfl) rfl ?_
  refine Fw.nil ?_
  refine hK10 _ _ (Fw.FC.sub (f' := [(33, _), (32, _), (31, _), (4, _), (0, _)]) (.cons rfl (.cons rfl (.cons rfl (.cons rfl (.cons rfl .nil))))) ?_)
  refine Fw.condF rfl ?_
  refine Fw.exit ?_
  refine Fw.X_exit ?_
  refine Fw.X_exit ?_
  refine Fw.X_block ?_
  refine hK7 _ _ ?_
  refine Fw.region ?_
  refine Fw.s (Fw.val_move rfl) rfl ?_
  refine Fw.call cf56 rfl rfl (there_any _ B q N E u Ae ce m mg ⟨hBq, s, v_, i, d, pp_, A_, c_, sp_, l, r, HR, HP, hpc, HE, ho⟩) ?_
  rintro e_ w20 ⟨rfl, H2, hc⟩
  refine ⟨_, rfl, ?_⟩
  replace HC := HC.trans hc (fun k hk_ e => by first | exact e | (left; exact e) | (right; exact e) | (exfalso; omega))
  clear hc
  clear HR HP HE
  refine Fw.nil ?_
  refine Fw.end_ [] [] Try.results41 .nil ?_
  have e : (max mn (Ag.cl t)) = m := by rw [← hm]; omega
  rw [e]
  exact ⟨rfl, H2, HC⟩

set_option maxRecDepth 100000 in
set_option maxHeartbeats 1000000 in
theorem rright29_any (w : World) (B q N : Nat) (E : List Rg.Ed) (u : Int) (Ae : Option Addr) (ce : Nat) (mn : Int) (mg : Or.F) (h : RaAt w B q N E u Ae ce mn mg) (o : Or.O) : Calls Try.prog 17 #[.pointer (some ⟨q, 0, none⟩), .agg #[.int .i64 o.u, .int .i64 o.e, .int .i64 o.k, .int .i64 o.i, .int .i64 o.n]] w fun e_ w' => e_ = .returned (.bool (Ag.adm N u o)) ∧ Below w.heap.size w w' := by
  obtain ⟨hBq, s, v, i, d, pp, A, c, sp, l, r, HR, HP, hpc, HE, ho⟩ := h
  have hql := HR.lt
  have hgu := ho.gu
  refine Fw.calls Try.func17 rfl Try.ntmps17 rfl ?_
  have HB := Below.refl (w.heap.size) w
  refine Fw.seq fun _ hK1 => ?_
  refine Fw.region ?_
  refine Fw.box rfl rfl ?_
  intro w1 gx egx Hx hb
  have lgx : w.heap.size ≤ gx := by have := HB.size; omega
  replace HB := HB.trans (hb.mono HB.size)
  clear hb
  clear egx
  refine Fw.s (Fw.val_assign rfl) rfl ?_
  refine Fw.nil ?_
  refine hK1 _ _ ?_
  refine Fw.seq fun _ hK2 => ?_
  refine Fw.regionQ (by kernel_rfl) (by kernel_rfl) ?_
  refine Fw.ldAQ ag43 rfl (Fw.rdBlk Hx) rfl rfl ?_
  refine Fw.callQ cf30 rfl rfl (fun w_ hb_ => oright_any o _) (fun _ _ _ h => h) ?_
  refine Fw.b2Q ?_ ?_
  rintro hv
  refine Fw.q (Fw.val_move rfl) rfl ?_
  refine Fw.gTQ (d := 7) rfl rfl ?_
  refine Fw.q (Fw.val_fieldAddr fl43_0 rfl rfl) rfl ?_
  refine Fw.gTQ (d := 7) rfl rfl ?_
  refine Fw.ldQ sc3 rfl (Hx.cell 0) rfl ?_
  refine Fw.gTQ (d := 7) rfl rfl ?_
  refine Fw.q (Fw.val_move rfl) rfl ?_
  refine Fw.gTQ (d := 7) rfl rfl ?_
  refine Fw.q (Fw.val_nil rfl) rfl ?_
  refine Fw.gTQ (d := 7) rfl rfl ?_
  refine Fw.q (Fw.val_fieldAddr fl50_1 rfl rfl) rfl ?_
  refine Fw.gTQ (d := 7) rfl rfl ?_
  refine Fw.q (Fw.val_fieldAddr fl45_0 rfl rfl) rfl ?_
  refine Fw.gTQ (d := 7) rfl rfl ?_
  refine Fw.ldQ sc3 rfl ((HR.low HB).cell 2) rfl ?_
  refine Fw.gTQ (d := 7) rfl rfl ?_
  refine Fw.q2 (Fw.val_bin rfl rfl Fw.b_eql) rfl ?_ ?_
  rintro hu
  refine Fw.q (Fw.val_pickT rfl rfl) rfl ?_
  refine Fw.q (Fw.val_move rfl) rfl ?_
  refine Fw.gTQ (d := 17) rfl rfl ?_
  refine Fw.q (Fw.val_fieldAddr fl43_2 rfl rfl) rfl ?_
  refine Fw.gTQ (d := 17) rfl rfl ?_
  refine Fw.ldQ sc3 rfl (Hx.cell 2) rfl ?_
  refine Fw.gTQ (d := 17) rfl rfl ?_
  refine Fw.q2 (Fw.val_bin rfl rfl Fw.b_eql) rfl ?_ ?_
  rintro hk
  refine Fw.gTQ (d := 17) rfl rfl ?_
  refine Fw.q (Fw.val_move rfl) rfl ?_
  refine Fw.gFQ (d := 21) rfl rfl rfl rfl ?_
  refine Fw.gFQ (d := 21) rfl rfl rfl rfl ?_
  refine Fw.gFQ (d := 21) rfl rfl rfl rfl ?_
  refine Fw.gFQ (d := 21) rfl rfl rfl rfl ?_
  refine Fw.gFQ (d := 21) rfl rfl rfl rfl ?_
  refine Fw.gFQ (d := 21) rfl rfl rfl rfl ?_
  refine Fw.gFQ (d := 21) rfl rfl rfl rfl ?_
  refine Fw.gFQ (d := 21) rfl rfl rfl rfl ?_
  refine Fw.gTQ (d := 17) rfl rfl ?_
  refine Fw.q (Fw.val_pickT rfl rfl) rfl ?_
  refine Fw.q (Fw.val_pickT rfl rfl) rfl ?_
  refine Fw.q (Fw.val_assign rfl) rfl ?_
  refine Fw.nilQ ?_
  intro w2 hb
  replace Hx := Hx.low hb
  replace HB := HB.trans (hb.mono HB.size)
  clear hb
  refine hK2 _ _ (Fw.FC.sub (f' := [(4, _)]) (.cons rfl .nil) ?_)
  refine Fw.ret ?_
  refine Fw.ret_ [.tmp 4] [_] Try.results17 (.tmp rfl .nil) ?_
  have e : Ag.adm N u o = true := by unfold Ag.adm; rw [hv, decide_eq_true (show o.u = u by omega), decide_eq_true hk]; rfl
  rw [e]
  exact ⟨rfl, HB⟩
  rintro hk
  refine Fw.gTQ (d := 17) rfl rfl ?_
  refine Fw.q (Fw.val_move rfl) rfl ?_
  refine Fw.gTQ (d := 21) rfl rfl ?_
  refine Fw.q (Fw.val_fieldAddr fl43_4 rfl rfl) rfl ?_
  refine Fw.gTQ (d := 21) rfl rfl ?_
  refine Fw.ldQ sc3 rfl (Hx.cell 4) rfl ?_
  refine Fw.gTQ (d := 21) rfl rfl ?_
  refine Fw.q (Fw.val_move rfl) rfl ?_
  refine Fw.gTQ (d := 21) rfl rfl ?_
  refine Fw.q (Fw.val_nil rfl) rfl ?_
  refine Fw.gTQ (d := 21) rfl rfl ?_
  refine Fw.q (Fw.val_fieldAddr fl50_0 rfl rfl) rfl ?_
  refine Fw.gTQ (d := 21) rfl rfl ?_
  refine Fw.q (Fw.val_fieldAddr fl24_0 rfl rfl) rfl ?_
  refine Fw.gTQ (d := 21) rfl rfl ?_
  refine Fw.ldQ sc3 rfl ((HR.low HB).cell 0) rfl ?_
  refine Fw.gTQ (d := 21) rfl rfl ?_
  refine Fw.q (Fw.val_bin rfl rfl Fw.b_lss) rfl ?_
  refine Fw.gTQ (d := 17) rfl rfl ?_
  refine Fw.q (Fw.val_pickF rfl rfl) rfl ?_
  refine Fw.q (Fw.val_pickT rfl rfl) rfl ?_
  refine Fw.q (Fw.val_assign rfl) rfl ?_
  refine Fw.nilQ ?_
  intro w3 hb
  replace Hx := Hx.low hb
  replace HB := HB.trans (hb.mono HB.size)
  clear hb
  refine hK2 _ _ (Fw.FC.sub (f' := [(4, _)]) (.cons rfl .nil) ?_)
  refine Fw.ret ?_
  refine Fw.ret_ [.tmp 4] [_] Try.results17 (.tmp rfl .nil) ?_
  have e : Ag.adm N u o = decide (o.n < N) := by unfold Ag.adm; rw [hv, decide_eq_true (show o.u = u by omega), decide_eq_false hk]; rfl
  rw [e]
  exact ⟨rfl, HB⟩
  rintro hu
  refine Fw.q (Fw.val_pickT rfl rfl) rfl ?_
  refine Fw.q (Fw.val_move rfl) rfl ?_
  refine Fw.gFQ (d := 17) rfl rfl rfl rfl ?_
  refine Fw.gFQ (d := 17) rfl rfl rfl rfl ?_
  refine Fw.gFQ (d := 17) rfl rfl rfl rfl ?_
  refine Fw.gFQ (d := 17) rfl rfl rfl rfl ?_
  refine Fw.gUQ (d := 21) rfl rfl rfl ?_
  refine Fw.gUQ (d := 21) rfl rfl rfl ?_
  refine Fw.gUQ (d := 21) rfl rfl rfl ?_
  refine Fw.gUQ (d := 21) rfl rfl rfl ?_
  refine Fw.gUQ (d := 21) rfl rfl rfl ?_
  refine Fw.gUQ (d := 21) rfl rfl rfl ?_
  refine Fw.gUQ (d := 21) rfl rfl rfl ?_
  refine Fw.gUQ (d := 21) rfl rfl rfl ?_
  refine Fw.gFQ (d := 17) rfl rfl rfl rfl ?_
  refine Fw.q (Fw.val_pickF rfl rfl) rfl ?_
  refine Fw.q (Fw.val_assign rfl) rfl ?_
  refine Fw.nilQ ?_
  intro w4 hb
  replace Hx := Hx.low hb
  replace HB := HB.trans (hb.mono HB.size)
  clear hb
  refine hK2 _ _ (Fw.FC.sub (f' := [(4, _)]) (.cons rfl .nil) ?_)
  refine Fw.ret ?_
  refine Fw.ret_ [.tmp 4] [_] Try.results17 (.tmp rfl .nil) ?_
  have e : Ag.adm N u o = false := by unfold Ag.adm; rw [decide_eq_false (show ¬ o.u = u by omega), Bool.and_false]; rfl
  rw [e]
  exact ⟨rfl, HB⟩
  rintro hv
  refine Fw.q (Fw.val_move rfl) rfl ?_
  refine Fw.gFQ (d := 7) rfl rfl rfl rfl ?_
  refine Fw.gFQ (d := 7) rfl rfl rfl rfl ?_
  refine Fw.gFQ (d := 7) rfl rfl rfl rfl ?_
  refine Fw.gFQ (d := 7) rfl rfl rfl rfl ?_
  refine Fw.gFQ (d := 7) rfl rfl rfl rfl ?_
  refine Fw.gFQ (d := 7) rfl rfl rfl rfl ?_
  refine Fw.gFQ (d := 7) rfl rfl rfl rfl ?_
  refine Fw.gFQ (d := 7) rfl rfl rfl rfl ?_
  refine Fw.q (Fw.val_pickF rfl rfl) rfl ?_
  refine Fw.q (Fw.val_move rfl) rfl ?_
  refine Fw.gFQ (d := 17) rfl rfl rfl rfl ?_
  refine Fw.gFQ (d := 17) rfl rfl rfl rfl ?_
  refine Fw.gFQ (d := 17) rfl rfl rfl rfl ?_
  refine Fw.gFQ (d := 17) rfl rfl rfl rfl ?_
  refine Fw.gUQ (d := 21) rfl rfl rfl ?_
  refine Fw.gUQ (d := 21) rfl rfl rfl ?_
  refine Fw.gUQ (d := 21) rfl rfl rfl ?_
  refine Fw.gUQ (d := 21) rfl rfl rfl ?_
  refine Fw.gUQ (d := 21) rfl rfl rfl ?_
  refine Fw.gUQ (d := 21) rfl rfl rfl ?_
  refine Fw.gUQ (d := 21) rfl rfl rfl ?_
  refine Fw.gUQ (d := 21) rfl rfl rfl ?_
  refine Fw.gFQ (d := 17) rfl rfl rfl rfl ?_
  refine Fw.q (Fw.val_pickF rfl rfl) rfl ?_
  refine Fw.q (Fw.val_assign rfl) rfl ?_
  refine Fw.nilQ ?_
  intro w5 hb
  replace Hx := Hx.low hb
  replace HB := HB.trans (hb.mono HB.size)
  clear hb
  refine hK2 _ _ (Fw.FC.sub (f' := [(4, _)]) (.cons rfl .nil) ?_)
  refine Fw.ret ?_
  refine Fw.ret_ [.tmp 4] [_] Try.results17 (.tmp rfl .nil) ?_
  have e : Ag.adm N u o = false := by unfold Ag.adm; rw [hv]; rfl
  rw [e]
  exact ⟨rfl, HB⟩

set_option maxRecDepth 100000 in
set_option maxHeartbeats 1000000 in
theorem rEpoch_any (w : World) (B q N : Nat) (E : List Rg.Ed) (u : Int) (Ae : Option Addr) (ce : Nat) (mn : Int) (mg : Or.F) (h : RaAt w B q N E u Ae ce mn mg) : Calls Try.prog 18 #[.pointer (some ⟨q, 0, none⟩)] w fun e_ w' => e_ = .returned (.int .i64 mg.o.e) ∧ w = w' := by
  obtain ⟨hBq, s, v, i, d, pp, A, c, sp, l, r, HR, HP, hpc, HE, ho⟩ := h
  have hql := HR.lt
  refine Fw.calls Try.func18 rfl Try.ntmps18 rfl ?_
  refine Fw.seq fun _ hK1 => ?_
  refine Fw.region ?_
  refine Fw.s (Fw.val_assign rfl) rfl ?_
  refine Fw.nil ?_
  refine hK1 _ _ ?_
  refine Fw.seq fun _ hK2 => ?_
  refine Fw.region ?_
  refine Fw.s (Fw.val_move rfl) rfl ?_
  refine Fw.s (Fw.val_nil rfl) rfl ?_
  refine Fw.s (Fw.val_fieldAddr fl50_1 rfl rfl) rfl ?_
  refine Fw.s (Fw.val_fieldAddr fl45_1 rfl rfl) rfl ?_
  refine Fw.s (Fw.val_fieldAddr fl43_1 rfl rfl) rfl ?_
  refine Fw.ld sc2 rfl (HR.cell 4) rfl ?_
  refine Fw.s (Fw.val_assign rfl) rfl ?_
  refine Fw.nil ?_
  refine hK2 _ _ (Fw.FC.sub (f' := [(2, _)]) (.cons rfl .nil) ?_)
  refine Fw.ret ?_
  refine Fw.ret_ [.tmp 2] [_] Try.results18 (.tmp rfl .nil) ?_
  exact ⟨rfl, rfl⟩

set_option maxRecDepth 100000 in
set_option maxHeartbeats 1000000 in
theorem rDo_any (w : World) (B q N : Nat) (E : List Rg.Ed) (u : Int) (Ae : Option Addr) (ce : Nat) (mn : Int) (mg : Or.F) (t : Int) (h : RaAt w B q N E u Ae ce mn mg) : Calls Try.prog 37 #[.pointer (some ⟨q, 0, none⟩), .int .i64 t] w fun e_ w' => ∃ k, e_ = .returned (.int .i64 k) ∧ RaAt w' B q N E u Ae ce (max mn (Ag.cl t)) mg ∧ Chg (· = q) w w' := by
  obtain ⟨hBq, s, v, i, d, pp, A, c, sp, l, r, HR, HP, hpc, HE, ho⟩ := h
  have hql := HR.lt
  refine Fw.calls Try.func37 rfl Try.ntmps37 rfl ?_
  have HC := Chg.refl (· = q) w
  refine Fw.seq fun _ hK1 => ?_
  refine Fw.region ?_
  refine Fw.s (Fw.val_assign rfl) rfl ?_
  refine Fw.nil ?_
  refine hK1 _ _ ?_
  refine Fw.seq fun _ hK2 => ?_
  refine Fw.region ?_
  refine Fw.s (Fw.val_move rfl) rfl ?_
  refine Fw.s (Fw.val_move rfl) rfl ?_
  refine Fw.call cf41 rfl rfl (tick_any _ B q N E u Ae ce mn mg t ⟨hBq, s, v, i, d, pp, A, c, sp, l, r, HR, HP, hpc, HE, ho⟩) ?_
  rintro e_ w1 ⟨rfl, H2, hc⟩
  refine ⟨_, rfl, ?_⟩
  replace HC := HC.trans hc (fun k hk_ e => by first | exact e | (left; exact e) | (right; exact e) | (exfalso; omega))
  clear hc
  clear HR HP HE
  obtain ⟨_, s2, v2, i2, d2, pp2, A2, c2, sp2, l2, r2, HR, HP, hpc2, HE, ho2⟩ := H2
  have hql2 := HR.lt
  refine Fw.nil ?_
  refine hK2 _ _ ?_
  refine Fw.seq fun _ hK3 => ?_
  refine Fw.seq fun _ hK4 => ?_
  refine Fw.region ?_
  refine Fw.s (Fw.val_move rfl) rfl ?_
  refine Fw.s (Fw.val_nil rfl) rfl ?_
  refine Fw.s (Fw.val_fieldAddr fl50_2 rfl rfl) rfl ?_
  refine Fw.ld sc3 rfl (HR.cell 8) rfl ?_
  refine Fw.nil ?_
  refine hK4 _ _ (Fw.FC.sub (f' := [(11, _), (0, _)]) (.cons rfl (.cons rfl .nil)) ?_)
  refine Fw.block ?_
  refine Fw.seq fun _ hK5 => ?_
  refine Fw.region ?_
  refine Fw.s2 (Fw.val_bin rfl rfl Fw.b_eql) rfl ?_ ?_
  rintro h4
  refine Fw.s (Fw.val_assign rfl) rfl ?_
  refine Fw.nil ?_
  refine hK5 _ _ ?_
  refine Fw.condT rfl ?_
  refine Fw.seq fun _ hK7 => ?_
  refine Fw.region ?_
  refine Fw.s (Fw.val_move rfl) rfl ?_
  refine Fw.s (Fw.val_nil rfl) rfl ?_
  refine Fw.s (Fw.val_fieldAddr fl50_2 rfl rfl) rfl ?_
  refine Fw.store sz3 rfl rfl HR rfl rfl rfl ?_
  intro w2 N_ hc
  replace HP := HP.chg hc (Fw.RdT.ne_ HP HR (by decide))
  replace HE := HE.below (hc.below (B := B) (fun k e => by omega) HE.1)
  replace HC := HC.trans hc (fun k hk_ e => by first | exact e | (left; exact e) | (right; exact e) | (exfalso; omega))
  clear hc
  clear HR
  have HR := N_
  clear N_
  replace HR : Blk w2 q 50 #[.int .i64 (N : Int), .slice Ae E.length ce, .int .i64 mg.u, .int .i64 mg.o.u, .int .i64 mg.o.e, .int .i64 mg.o.k, .int .i64 mg.o.i, .int .i64 mg.o.n, .int .i64 5, .int .i64 (v2 : Int), .int .i64 i2, .int .i64 (d2 : Int), .slice A2 pp2.length c2, .int .i64 sp2, .int .i64 (max mn (Ag.cl t)), .int .i64 l2.u, .int .i64 l2.q, .int .i64 l2.s, .int .i64 l2.n, .int .i64 l2.e, .int .i64 r2] := HR
  refine Fw.nil ?_
  refine hK7 _ _ (Fw.FC.sub (f' := []) .nil ?_)
  refine Fw.seq fun _ hK8 => ?_
  refine Fw.region ?_
  refine Fw.s (Fw.val_assign rfl) rfl ?_
  refine Fw.nil ?_
  refine hK8 _ _ ?_
  refine Fw.ret ?_
  refine Fw.X_blockR ?_
  refine Fw.X_ret ?_
  refine Fw.ret_ [.tmp 4] [_] Try.results37 (.tmp rfl .nil) ?_
  exact ⟨_, rfl, ⟨hBq, 5, v2, i2, d2, pp2, A2, c2, sp2, l2, r2, HR, HP, hpc2, HE, ho2⟩, HC⟩
  rintro h4
  refine Fw.s (Fw.val_assign rfl) rfl ?_
  refine Fw.nil ?_
  refine hK5 _ _ ?_
  refine Fw.condF rfl ?_
  refine Fw.seq fun _ hK9 => ?_
  refine Fw.region ?_
  refine Fw.s2 (Fw.val_bin rfl rfl Fw.b_eql) rfl ?_ ?_
  rintro h5
  refine Fw.s (Fw.val_assign rfl) rfl ?_
  refine Fw.nil ?_
  refine hK9 _ _ ?_
  refine Fw.condT rfl ?_
  refine Fw.seq fun _ hK11 => ?_
  refine Fw.region ?_
  refine Fw.s (Fw.val_move rfl) rfl ?_
  refine Fw.s (Fw.val_move rfl) rfl ?_
  refine Fw.s (Fw.val_nil rfl) rfl ?_
  refine Fw.s (Fw.val_fieldAddr fl50_2 rfl rfl) rfl ?_
  refine Fw.store sz3 rfl rfl HR rfl rfl rfl ?_
  intro w3 N_ hc
  replace HP := HP.chg hc (Fw.RdT.ne_ HP HR (by decide))
  replace HE := HE.below (hc.below (B := B) (fun k e => by omega) HE.1)
  replace HC := HC.trans hc (fun k hk_ e => by first | exact e | (left; exact e) | (right; exact e) | (exfalso; omega))
  clear hc
  clear HR
  have HR := N_
  clear N_
  replace HR : Blk w3 q 50 #[.int .i64 (N : Int), .slice Ae E.length ce, .int .i64 mg.u, .int .i64 mg.o.u, .int .i64 mg.o.e, .int .i64 mg.o.k, .int .i64 mg.o.i, .int .i64 mg.o.n, .int .i64 1, .int .i64 (v2 : Int), .int .i64 i2, .int .i64 (d2 : Int), .slice A2 pp2.length c2, .int .i64 sp2, .int .i64 (max mn (Ag.cl t)), .int .i64 l2.u, .int .i64 l2.q, .int .i64 l2.s, .int .i64 l2.n, .int .i64 l2.e, .int .i64 r2] := HR
  refine Fw.s (Fw.val_nil rfl) rfl ?_
  refine Fw.s (Fw.val_fieldAddr fl50_4 rfl rfl) rfl ?_
  refine Fw.store sz2 rfl rfl HR rfl rfl rfl ?_
  intro w4 N_ hc
  replace HP := HP.chg hc (Fw.RdT.ne_ HP HR (by decide))
  replace HE := HE.below (hc.below (B := B) (fun k e => by omega) HE.1)
  replace HC := HC.trans hc (fun k hk_ e => by first | exact e | (left; exact e) | (right; exact e) | (exfalso; omega))
  clear hc
  clear HR
  have HR := N_
  clear N_
  replace HR : Blk w4 q 50 #[.int .i64 (N : Int), .slice Ae E.length ce, .int .i64 mg.u, .int .i64 mg.o.u, .int .i64 mg.o.e, .int .i64 mg.o.k, .int .i64 mg.o.i, .int .i64 mg.o.n, .int .i64 1, .int .i64 (v2 : Int), .int .i64 0, .int .i64 (d2 : Int), .slice A2 pp2.length c2, .int .i64 sp2, .int .i64 (max mn (Ag.cl t)), .int .i64 l2.u, .int .i64 l2.q, .int .i64 l2.s, .int .i64 l2.n, .int .i64 l2.e, .int .i64 r2] := HR
  refine Fw.nil ?_
  refine hK11 _ _ (Fw.FC.sub (f' := []) .nil ?_)
  refine Fw.seq fun _ hK12 => ?_
  refine Fw.region ?_
  refine Fw.s (Fw.val_assign rfl) rfl ?_
  refine Fw.nil ?_
  refine hK12 _ _ ?_
  refine Fw.ret ?_
  refine Fw.X_blockR ?_
  refine Fw.X_ret ?_
  refine Fw.ret_ [.tmp 4] [_] Try.results37 (.tmp rfl .nil) ?_
  exact ⟨_, rfl, ⟨hBq, 1, v2, 0, d2, pp2, A2, c2, sp2, l2, r2, HR, HP, hpc2, HE, ho2⟩, HC⟩
  rintro h5
  refine Fw.s (Fw.val_assign rfl) rfl ?_
  refine Fw.nil ?_
  refine hK9 _ _ ?_
  refine Fw.condF rfl ?_
  refine Fw.skip ?_
  refine Fw.X_blockN ?_
  refine hK3 _ _ ?_
  refine Fw.seq fun _ hK13 => ?_
  refine Fw.region ?_
  refine Fw.s (Fw.val_assign rfl) rfl ?_
  refine Fw.nil ?_
  refine hK13 _ _ ?_
  refine Fw.ret ?_
  refine Fw.ret_ [.tmp 4] [_] Try.results37 (.tmp rfl .nil) ?_
  exact ⟨_, rfl, ⟨hBq, s2, v2, i2, d2, pp2, A2, c2, sp2, l2, r2, HR, HP, hpc2, HE, ho2⟩, HC⟩

set_option maxRecDepth 100000 in
set_option maxHeartbeats 1000000 in
theorem rOff_any (w : World) (B q N : Nat) (E : List Rg.Ed) (u : Int) (Ae : Option Addr) (ce : Nat) (mn : Int) (mg : Or.F) (t : Int) (h : RaAt w B q N E u Ae ce mn mg) : Calls Try.prog 39 #[.pointer (some ⟨q, 0, none⟩), .int .i64 t] w fun e_ w' => ∃ k, e_ = .returned (.int .i64 k) ∧ RaAt w' B q N E u Ae ce (max mn (Ag.cl t)) mg ∧ Chg (· = q) w w' := by
  obtain ⟨hBq, s, v, i, d, pp, A, c, sp, l, r, HR, HP, hpc, HE, ho⟩ := h
  have hql := HR.lt
  refine Fw.calls Try.func39 rfl Try.ntmps39 rfl ?_
  have HC := Chg.refl (· = q) w
  refine Fw.seq fun _ hK1 => ?_
  refine Fw.region ?_
  refine Fw.s (Fw.val_assign rfl) rfl ?_
  refine Fw.nil ?_
  refine hK1 _ _ ?_
  refine Fw.seq fun _ hK2 => ?_
  refine Fw.region ?_
  refine Fw.s (Fw.val_move rfl) rfl ?_
  refine Fw.s (Fw.val_move rfl) rfl ?_
  refine Fw.call cf41 rfl rfl (tick_any _ B q N E u Ae ce mn mg t ⟨hBq, s, v, i, d, pp, A, c, sp, l, r, HR, HP, hpc, HE, ho⟩) ?_
  rintro e_ w1 ⟨rfl, H2, hc⟩
  refine ⟨_, rfl, ?_⟩
  replace HC := HC.trans hc (fun k hk_ e => by first | exact e | (left; exact e) | (right; exact e) | (exfalso; omega))
  clear hc
  clear HR HP HE
  obtain ⟨_, s2, v2, i2, d2, pp2, A2, c2, sp2, l2, r2, HR, HP, hpc2, HE, ho2⟩ := H2
  have hql2 := HR.lt
  refine Fw.nil ?_
  refine hK2 _ _ ?_
  refine Fw.seq fun _ hK3 => ?_
  refine Fw.seq fun _ hK4 => ?_
  refine Fw.region ?_
  refine Fw.s (Fw.val_move rfl) rfl ?_
  refine Fw.s (Fw.val_nil rfl) rfl ?_
  refine Fw.s (Fw.val_fieldAddr fl50_2 rfl rfl) rfl ?_
  refine Fw.ld sc3 rfl (HR.cell 8) rfl ?_
  refine Fw.nil ?_
  refine hK4 _ _ (Fw.FC.sub (f' := [(11, _), (0, _)]) (.cons rfl (.cons rfl .nil)) ?_)
  refine Fw.block ?_
  refine Fw.seq fun _ hK5 => ?_
  refine Fw.region ?_
  refine Fw.s2 (Fw.val_bin rfl rfl Fw.b_eql) rfl ?_ ?_
  rintro h4
  refine Fw.s (Fw.val_assign rfl) rfl ?_
  refine Fw.nil ?_
  refine hK5 _ _ ?_
  refine Fw.condT rfl ?_
  refine Fw.seq fun _ hK7 => ?_
  refine Fw.region ?_
  refine Fw.s (Fw.val_move rfl) rfl ?_
  refine Fw.s (Fw.val_nil rfl) rfl ?_
  refine Fw.s (Fw.val_fieldAddr fl50_2 rfl rfl) rfl ?_
  refine Fw.store sz3 rfl rfl HR rfl rfl rfl ?_
  intro w2 N_ hc
  replace HP := HP.chg hc (Fw.RdT.ne_ HP HR (by decide))
  replace HE := HE.below (hc.below (B := B) (fun k e => by omega) HE.1)
  replace HC := HC.trans hc (fun k hk_ e => by first | exact e | (left; exact e) | (right; exact e) | (exfalso; omega))
  clear hc
  clear HR
  have HR := N_
  clear N_
  replace HR : Blk w2 q 50 #[.int .i64 (N : Int), .slice Ae E.length ce, .int .i64 mg.u, .int .i64 mg.o.u, .int .i64 mg.o.e, .int .i64 mg.o.k, .int .i64 mg.o.i, .int .i64 mg.o.n, .int .i64 6, .int .i64 (v2 : Int), .int .i64 i2, .int .i64 (d2 : Int), .slice A2 pp2.length c2, .int .i64 sp2, .int .i64 (max mn (Ag.cl t)), .int .i64 l2.u, .int .i64 l2.q, .int .i64 l2.s, .int .i64 l2.n, .int .i64 l2.e, .int .i64 r2] := HR
  refine Fw.nil ?_
  refine hK7 _ _ ?_
  refine Fw.seq fun _ hK8 => ?_
  refine Fw.region ?_
  refine Fw.s (Fw.val_move rfl) rfl ?_
  refine Fw.s (Fw.val_move rfl) rfl ?_
  refine Fw.s (Fw.val_nil rfl) rfl ?_
  refine Fw.s (Fw.val_fieldAddr fl50_3 rfl rfl) rfl ?_
  refine Fw.ld sc3 rfl (HR.cell 9) rfl ?_
  refine Fw.call cf55 rfl rfl (lead_any _ B q N E u Ae ce (max mn (Ag.cl t)) mg ⟨hBq, 6, v2, i2, d2, pp2, A2, c2, sp2, l2, r2, HR, HP, hpc2, HE, ho2⟩ v2 ho2.hv) ?_
  rintro e_ w3 ⟨rfl, H2, hc⟩
  refine ⟨_, rfl, ?_⟩
  replace HC := HC.trans hc (fun k hk_ e => by first | exact e | (left; exact e) | (right; exact e) | (exfalso; omega))
  clear hc
  clear HR HP HE
  obtain ⟨_, s3, v3, i3, d3, pp3, A3, c3, sp3, l3, r3, HR, HP, hpc3, HE, ho3⟩ := H2
  have hql3 := HR.lt
  refine Fw.nil ?_
  refine hK8 _ _ (Fw.FC.sub (f' := []) .nil ?_)
  refine Fw.seq fun _ hK9 => ?_
  refine Fw.region ?_
  refine Fw.s (Fw.val_assign rfl) rfl ?_
  refine Fw.nil ?_
  refine hK9 _ _ ?_
  refine Fw.ret ?_
  refine Fw.X_blockR ?_
  refine Fw.X_ret ?_
  refine Fw.ret_ [.tmp 4] [_] Try.results39 (.tmp rfl .nil) ?_
  exact ⟨_, rfl, ⟨hBq, s3, v3, i3, d3, pp3, A3, c3, sp3, l3, r3, HR, HP, hpc3, HE, ho3⟩, HC⟩
  rintro h4
  refine Fw.s (Fw.val_assign rfl) rfl ?_
  refine Fw.nil ?_
  refine hK5 _ _ ?_
  refine Fw.condF rfl ?_
  refine Fw.seq fun _ hK10 => ?_
  refine Fw.region ?_
  refine Fw.s2 (Fw.val_bin rfl rfl Fw.b_eql) rfl ?_ ?_
  rintro h5
  refine Fw.s (Fw.val_assign rfl) rfl ?_
  refine Fw.nil ?_
  refine hK10 _ _ ?_
  refine Fw.condT rfl ?_
  refine Fw.seq fun _ hK12 => ?_
  refine Fw.region ?_
  refine Fw.s (Fw.val_move rfl) rfl ?_
  refine Fw.s (Fw.val_nil rfl) rfl ?_
  refine Fw.s (Fw.val_fieldAddr fl50_2 rfl rfl) rfl ?_
  refine Fw.store sz3 rfl rfl HR rfl rfl rfl ?_
  intro w4 N_ hc
  replace HP := HP.chg hc (Fw.RdT.ne_ HP HR (by decide))
  replace HE := HE.below (hc.below (B := B) (fun k e => by omega) HE.1)
  replace HC := HC.trans hc (fun k hk_ e => by first | exact e | (left; exact e) | (right; exact e) | (exfalso; omega))
  clear hc
  clear HR
  have HR := N_
  clear N_
  replace HR : Blk w4 q 50 #[.int .i64 (N : Int), .slice Ae E.length ce, .int .i64 mg.u, .int .i64 mg.o.u, .int .i64 mg.o.e, .int .i64 mg.o.k, .int .i64 mg.o.i, .int .i64 mg.o.n, .int .i64 1, .int .i64 (v2 : Int), .int .i64 i2, .int .i64 (d2 : Int), .slice A2 pp2.length c2, .int .i64 sp2, .int .i64 (max mn (Ag.cl t)), .int .i64 l2.u, .int .i64 l2.q, .int .i64 l2.s, .int .i64 l2.n, .int .i64 l2.e, .int .i64 r2] := HR
  refine Fw.nil ?_
  refine hK12 _ _ (Fw.FC.sub (f' := []) .nil ?_)
  refine Fw.seq fun _ hK13 => ?_
  refine Fw.region ?_
  refine Fw.s (Fw.val_assign rfl) rfl ?_
  refine Fw.nil ?_
  refine hK13 _ _ ?_
  refine Fw.ret ?_
  refine Fw.X_blockR ?_
  refine Fw.X_ret ?_
  refine Fw.ret_ [.tmp 4] [_] Try.results39 (.tmp rfl .nil) ?_
  exact ⟨_, rfl, ⟨hBq, 1, v2, i2, d2, pp2, A2, c2, sp2, l2, r2, HR, HP, hpc2, HE, ho2⟩, HC⟩
  rintro h5
  refine Fw.s (Fw.val_assign rfl) rfl ?_
  refine Fw.nil ?_
  refine hK10 _ _ ?_
  refine Fw.condF rfl ?_
  refine Fw.skip ?_
  refine Fw.X_blockN ?_
  refine hK3 _ _ ?_
  refine Fw.seq fun _ hK14 => ?_
  refine Fw.region ?_
  refine Fw.s (Fw.val_assign rfl) rfl ?_
  refine Fw.nil ?_
  refine hK14 _ _ ?_
  refine Fw.ret ?_
  refine Fw.ret_ [.tmp 4] [_] Try.results39 (.tmp rfl .nil) ?_
  exact ⟨_, rfl, ⟨hBq, s2, v2, i2, d2, pp2, A2, c2, sp2, l2, r2, HR, HP, hpc2, HE, ho2⟩, HC⟩

end Go.Proofs.Ytmacmlgjejdhpaa
