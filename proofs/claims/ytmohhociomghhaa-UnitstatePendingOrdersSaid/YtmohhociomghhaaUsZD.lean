/- Layer 27: the law of stale reports. -/
import Derived.Test.YtmohhociomghhaaUsZC
namespace Go.Proofs.Ytmohhociomghhaa
set_option linter.unusedSimpArgs false
set_option linter.unusedVariables false
open Go.RowKit

namespace Us
theorem repE_old {l : List U} {s : S} {u : U} (hg : get l s.u = u) (hq : s.q ≤ u.seq) (now e : Int) : repE l s now e ≠ 0 := by
  unfold repE
  rw [hg]
  repeat' split
  all_goals first | decide | omega
theorem repL_no {l : List U} {s : S} {now e : Int} (h : repE l s now e ≠ 0) : repL l s now e = l := if_neg h
theorem repGone_no {l : List U} {s : S} {now e : Int} (h : repE l s now e ≠ 0) : repGone l s now e = false := by unfold repGone; rw [decide_eq_false h]; rfl
theorem there_repL {l : List U} {s : S} {now e : Int} {i : Int} : there (repL l s now e) i = there l i := by unfold there; rw [repL_len]
theorem repU_seq (u : U) (s : S) (now e : Int) : (repU u s now e).seq = s.q := by
  unfold repU rep1 issue
  repeat' split
  all_goals rfl
theorem repU_old {u : U} {s : S} {now e : Int} (h1 : s.e < u.ep) (h2 : s.s ≠ 6) : (repU u s now e).state = u.state ∧ (repU u s now e).inc = u.inc := by
  unfold repU
  rw [if_neg h2, if_pos (by omega)]
  exact ⟨rfl, rfl⟩
theorem get_repL {l : List U} {s : S} {u : U} {now e : Int} (ht : there l s.u = true) (hg : get l s.u = u) (hE : repE l s now e = 0) : get (repL l s now e) s.u = repU u s now e := by
  unfold repL
  rw [if_pos hE, hg]
  have := of_decide_eq_true ht
  unfold get put
  rw [List.getD_eq_getElem?_getD, List.getElem?_set_self (by omega)]
  rfl
theorem unitA_in {l : List U} {i : Int} (h : there l i = true) : unitA l i = (get l i).head := by
  unfold unitA unitI
  rw [if_pos h]
  rfl
end Us
set_option maxRecDepth 100000 in
set_option maxHeartbeats 1000000 in
theorem stale_any (w : World) (A : Option Addr) (cf : List Us.Cfg) (c0 : Nat) (A2 : Option Addr) (acts : List Us.Act) (c2 : Nat) (h : Rd w A (cf.flatMap Us.Cfg.cells)) (h2 : Rd w A2 (acts.flatMap Us.Act.cells)) (s : Us.S) : Calls Try.prog 7 #[.slice A cf.length c0, .slice A2 acts.length c2, .agg (Us.S.cells s).toArray] w fun e_ w' => e_ = .returned (.bool true) ∧ Below w.heap.size w w' := by
  by_cases hE : Us.newE cf = 0
  · cases hth : Us.there (Us.playL (Us.newL cf) acts) s.u with
    | true =>
      refine Fw.calls Try.func7 rfl Try.ntmps7 rfl ?_
      have HB := Below.refl (w.heap.size) w
      refine Fw.seq fun _ hK1 => ?_
      refine Fw.region ?_
      refine Fw.box rfl rfl ?_
      intro w1 gXs egXs HXs hb
      have lgXs : w.heap.size ≤ gXs := by have := HB.size; omega
      replace HB := HB.trans (hb.mono HB.size)
      clear hb
      clear egXs
      refine Fw.s (Fw.val_assign rfl) rfl ?_
      refine Fw.nil ?_
      refine hK1 _ _ ?_
      refine Fw.seq fun _ hK2 => ?_
      refine Fw.seq fun _ hK3 => ?_
      refine Fw.region ?_
      refine Fw.call cf9 rfl rfl (wakes_any _) ?_
      rintro e_ w2 ⟨rfl, hb⟩
      refine ⟨_, rfl, ?_⟩
      replace HXs := HXs.low hb
      replace HB := HB.trans (hb.mono HB.size)
      clear hb
      refine Fw.bT (by rfl) ?_
      refine Fw.s (Fw.val_not rfl) rfl ?_
      refine Fw.nil ?_
      refine hK3 _ _ ?_
      refine Fw.condF rfl ?_
      refine Fw.skip ?_
      refine hK2 _ _ ?_
      refine Fw.seq fun _ hK4 => ?_
      refine Fw.seq fun _ hK5 => ?_
      refine Fw.region ?_
      refine Fw.s (Fw.val_move rfl) rfl ?_
      refine Fw.s (Fw.val_len Try.underlying22 rfl) rfl ?_
      refine Fw.s2 (Fw.val_bin rfl rfl Fw.b_gtr) rfl ?_ ?_
      · rintro hn1
        refine Fw.s (Fw.val_move rfl) rfl ?_
        refine Fw.gF (d := 27) rfl rfl rfl rfl ?_
        refine Fw.gF (d := 27) rfl rfl rfl rfl ?_
        refine Fw.gF (d := 27) rfl rfl rfl rfl ?_
        refine Fw.s (Fw.val_pickT rfl rfl) rfl ?_
        refine Fw.nil ?_
        refine hK5 _ _ (Fw.FC.sub (f' := [(31, _), (5, _), (0, _), (1, _)]) (.cons rfl (.cons rfl (.cons rfl (.cons rfl .nil)))) ?_)
        refine Fw.condT rfl ?_
        refine Fw.seq fun _ hK7 => ?_
        refine Fw.region ?_
        refine Fw.s (Fw.val_assign rfl) rfl ?_
        refine Fw.nil ?_
        refine hK7 _ _ ?_
        refine Fw.ret ?_
        refine Fw.X_ret ?_
        refine Fw.ret_ [.tmp 6] [_] Try.results7 (.tmp rfl .nil) ?_
        exact ⟨rfl, HB⟩
      · rintro hn1
        refine Fw.s (Fw.val_move rfl) rfl ?_
        refine Fw.gT (d := 27) rfl rfl ?_
        refine Fw.s (Fw.val_move rfl) rfl ?_
        refine Fw.gT (d := 27) rfl rfl ?_
        refine Fw.s (Fw.val_len Try.underlying43 rfl) rfl ?_
        refine Fw.gT (d := 27) rfl rfl ?_
        refine Fw.s2 (Fw.val_bin rfl rfl Fw.b_gtr) rfl ?_ ?_
        · rintro hn2
          refine Fw.s (Fw.val_pickF rfl rfl) rfl ?_
          refine Fw.nil ?_
          refine hK5 _ _ (Fw.FC.sub (f' := [(31, _), (5, _), (0, _), (1, _)]) (.cons rfl (.cons rfl (.cons rfl (.cons rfl .nil)))) ?_)
          refine Fw.condT rfl ?_
          refine Fw.seq fun _ hK9 => ?_
          refine Fw.region ?_
          refine Fw.s (Fw.val_assign rfl) rfl ?_
          refine Fw.nil ?_
          refine hK9 _ _ ?_
          refine Fw.ret ?_
          refine Fw.X_ret ?_
          refine Fw.ret_ [.tmp 6] [_] Try.results7 (.tmp rfl .nil) ?_
          exact ⟨rfl, HB⟩
        · rintro hn2
          refine Fw.s (Fw.val_pickF rfl rfl) rfl ?_
          refine Fw.nil ?_
          refine hK5 _ _ (Fw.FC.sub (f' := [(31, _), (5, _), (0, _), (1, _)]) (.cons rfl (.cons rfl (.cons rfl (.cons rfl .nil)))) ?_)
          refine Fw.condF rfl ?_
          refine Fw.skip ?_
          refine hK4 _ _ ?_
          refine Fw.seq fun _ hK10 => ?_
          refine Fw.region ?_
          refine Fw.s (Fw.val_move rfl) rfl ?_
          refine Fw.s (Fw.val_move rfl) rfl ?_
          refine Fw.call cf17 rfl rfl (play_any _ A cf c0 A2 acts c2 (h.low HB) (h2.low HB) (by omega)) ?_
          rintro e_ w3 ⟨x, rfl, hx, hb⟩
          refine ⟨_, rfl, ?_⟩
          have hs0 := HB.size
          have hxq := HXs.lt
          replace HXs := HXs.low hb
          replace HB := HB.trans (hb.mono HB.size)
          clear hb
          obtain ⟨hle, p, g, rfl, HR⟩ := hx hE
          have lgq := HR.2.1
          replace HR := HR.mono hs0
          have lp := HR.1
          have lg := HR.2.1
          rw [decide_eq_true hE]
          obtain ⟨L, hL⟩ : ∃ L, L = Us.playL (Us.newL cf) acts := ⟨_, rfl⟩
          rw [← hL] at HR
          have hG : Us.Good L := hL ▸ (Us.good_new hE).play acts
          have hLl : L.length = cf.length := by rw [hL, Us.playL_len, Us.newL_len]
          have hT : Us.there L s.u = true := by rw [hL]; exact hth
          obtain ⟨u, hu⟩ : ∃ u, Us.get L s.u = u := ⟨_, rfl⟩
          have hI : Us.Inv u := by
            have h_ := of_decide_eq_true hT
            obtain ⟨i, hi⟩ : ∃ i : Nat, s.u = i := ⟨s.u.toNat, by omega⟩
            have hi2 : i < L.length := by omega
            have := (hG i _ (List.getElem?_eq_getElem hi2)).1
            rw [← hu, Us.get_at hi hi2]; exact this
          have hI1 := hI.ack
          have hI2 := hI.ack0
          have hI3 := hI.epM
          refine Fw.s (Fw.val_move rfl) rfl ?_
          refine Fw.s (Fw.val_extract rfl rfl) rfl ?_
          refine Fw.s (Fw.val_extract rfl rfl) rfl ?_
          refine Fw.bT (by rfl) ?_
          refine Fw.s (Fw.val_assign rfl) rfl ?_
          refine Fw.s (Fw.val_assign rfl) rfl ?_
          refine Fw.nil ?_
          refine hK10 _ _ (Fw.FC.sub (f' := [(8, _), (7, _), (5, _)]) (.cons rfl (.cons rfl (.cons rfl .nil))) ?_)
          refine Fw.seq fun _ hK11 => ?_
          refine Fw.region ?_
          refine Fw.s (Fw.val_build (ps := []) rfl (bu32_)) rfl ?_
          refine Fw.alloc ze32 rfl ?_
          intro w4 gXu egXu HXu hb
          have ln_gXu : g < gXu := by have := HR.lt; omega
          have fr_HR_gXu := HR.fresh egXu
          have n_gXs_gXu : gXs < gXu := by have := HXs.lt; omega
          have lgXu : w.heap.size ≤ gXu := by have := HB.size; omega
          replace HXs := HXs.low hb
          replace HR := HR.low hb
          replace HB := HB.trans (hb.mono HB.size)
          clear hb
          clear egXu
          refine Fw.storeW sz32 rfl rfl HXu rfl rfl (by exact Fw.oneCells rfl) ?_
          intro w5 N_ hc
          replace HXs := HXs.chg hc (by omega)
          replace HR := HR.chg hc fr_HR_gXu.1 fr_HR_gXu.2
          replace HB := HB.trans (hc.below (B := w.heap.size) (fun k e => by omega) HB.size)
          clear hc
          clear HXu
          have HXu := N_
          clear N_
          refine Fw.s (Fw.val_assign rfl) rfl ?_
          refine Fw.nil ?_
          refine hK11 _ _ ?_
          refine Fw.seq fun _ hK12 => ?_
          refine Fw.seq fun _ hK13 => ?_
          refine Fw.region ?_
          refine Fw.s (Fw.val_move rfl) rfl ?_
          refine Fw.nil ?_
          refine hK13 _ _ ?_
          refine Fw.condT rfl ?_
          refine Fw.region ?_
          refine Fw.s (Fw.val_move rfl) rfl ?_
          refine Fw.s (Fw.val_fieldAddr fl45_0 rfl rfl) rfl ?_
          refine Fw.ld sc3 rfl (HXs.cell 0) rfl ?_
          refine Fw.call cf12 rfl rfl (by have := unit_any w5 w.heap.size p g cf.length L s.u HR; rw [Us.unitA_in hT, hT, hu] at this; exact this) ?_
          rintro e_ w6 ⟨rfl, hb⟩
          refine ⟨_, rfl, ?_⟩
          replace HXs := HXs.low hb
          replace HR := HR.low hb
          replace HXu := HXu.low hb
          replace HB := HB.trans (hb.mono HB.size)
          clear hb
          refine Fw.s (Fw.val_move rfl) rfl ?_
          refine Fw.s (Fw.val_extract rfl rfl) rfl ?_
          refine Fw.s (Fw.val_extract rfl rfl) rfl ?_
          refine Fw.bT (by rfl) ?_
          refine Fw.storeW sz32 rfl rfl HXu rfl rfl (by exact Fw.oneCells rfl) ?_
          intro w7 N_ hc
          replace HXs := HXs.chg hc (by omega)
          replace HR := HR.chg hc fr_HR_gXu.1 fr_HR_gXu.2
          replace HB := HB.trans (hc.below (B := w.heap.size) (fun k e => by omega) HB.size)
          clear hc
          clear HXu
          have HXu := N_
          clear N_
          refine Fw.s (Fw.val_assign rfl) rfl ?_
          refine Fw.nil ?_
          refine hK12 _ _ (Fw.FC.sub (f' := [(10, _), (9, _), (7, _), (5, _)]) (.cons rfl (.cons rfl (.cons rfl (.cons rfl .nil)))) ?_)
          refine Fw.seq fun _ hK14 => ?_
          refine Fw.seq fun _ hK15 => ?_
          refine Fw.region ?_
          refine Fw.s (Fw.val_move rfl) rfl ?_
          refine Fw.s (Fw.val_not rfl) rfl ?_
          refine Fw.nil ?_
          refine hK15 _ _ ?_
          refine Fw.condF rfl ?_
          refine Fw.skip ?_
          refine hK14 _ _ ?_
          refine Fw.seq fun _ hK16 => ?_
          refine Fw.region ?_
          refine Fw.s (Fw.val_move rfl) rfl ?_
          refine Fw.call cf21 rfl rfl (checksum_any w7 w.heap.size p g cf.length L HR (by first | omega | (simp only [Us.repL_len]; omega))) ?_
          rintro e_ w8 ⟨rfl, hb⟩
          refine ⟨_, rfl, ?_⟩
          replace HXs := HXs.low hb
          replace HR := HR.low hb
          replace HXu := HXu.low hb
          replace HB := HB.trans (hb.mono HB.size)
          clear hb
          refine Fw.s (Fw.val_assign rfl) rfl ?_
          refine Fw.nil ?_
          refine hK16 _ _ ?_
          refine Fw.seq fun _ hK17 => ?_
          refine Fw.seq fun _ hK18 => ?_
          refine Fw.region ?_
          refine Fw.s (Fw.val_fieldAddr fl45_1 rfl rfl) rfl ?_
          refine Fw.ld sc2 rfl (HXs.cell 1) rfl ?_
          refine Fw.s (Fw.val_fieldAddr fl32_5 rfl rfl) rfl ?_
          refine Fw.ld sc2 rfl (HXu.cell 5) rfl ?_
          refine Fw.s2 (Fw.val_bin rfl rfl Fw.b_leq) rfl ?_ ?_
          · rintro hq
            refine Fw.nil ?_
            refine hK18 _ _ (Fw.FC.sub (f' := [(55, _), (11, _), (9, _), (7, _), (5, _)]) (.cons rfl (.cons rfl (.cons rfl (.cons rfl (.cons rfl .nil))))) ?_)
            refine Fw.condT rfl ?_
            refine Fw.seq fun _ hK20 => ?_
            refine Fw.region ?_
            refine Fw.s (Fw.val_move rfl) rfl ?_
            refine Fw.ldA ag45 rfl (Fw.rdBlk HXs) rfl rfl ?_
            refine Fw.s (Fw.val_fieldAddr fl32_8 rfl rfl) rfl ?_
            refine Fw.ld sc2 rfl (HXu.cell 8) rfl ?_
            refine Fw.s (Fw.val_bin rfl rfl (Fw.b_add (Fw.i64_ok (by omega)))) rfl ?_
            refine Fw.call cf18 rfl rfl (report_any _ w.heap.size p g cf.length L s 5 (u.ep + 1) HR) ?_
            rintro e_ w9 ⟨rfl, HR2, hc⟩
            refine ⟨_, rfl, ?_⟩
            replace HXs := HXs.chg hc (by omega)
            replace HXu := HXu.chg hc (by omega)
            replace HB := HB.trans (hc.below (B := w.heap.size) (fun k e => by omega) HB.size)
            clear hc
            clear HR
            have HR := HR2
            clear HR2
            have hn1 := Us.repE_old hu hq 5 (u.ep + 1)
            refine Fw.s (Fw.val_move rfl) rfl ?_
            refine Fw.s (Fw.val_extract rfl rfl) rfl ?_
            refine Fw.s (Fw.val_extract rfl rfl) rfl ?_
            refine Fw.s (Fw.val_assign rfl) rfl ?_
            refine Fw.s (Fw.val_assign rfl) rfl ?_
            refine Fw.nil ?_
            refine hK20 _ _ (Fw.FC.sub (f' := [(13, _), (11, _), (7, _)]) (.cons rfl (.cons rfl (.cons rfl .nil))) ?_)
            refine Fw.seq fun _ hK21 => ?_
            refine Fw.region ?_
            refine Fw.s (Fw.val_move rfl) rfl ?_
            refine Fw.s (Fw.Val.T (Fw.val_bin rfl rfl Fw.b_neq) (by exact hn1)) rfl ?_
            refine Fw.s (Fw.val_move rfl) rfl ?_
            refine Fw.gT (d := 67) rfl rfl ?_
            refine Fw.s (Fw.val_move rfl) rfl ?_
            refine Fw.gT (d := 67) rfl rfl ?_
            refine Fw.call cf21 rfl rfl (checksum_any w9 w.heap.size p g cf.length (Us.repL L s 5 (u.ep + 1)) HR (by first | omega | (simp only [Us.repL_len]; omega))) ?_
            rintro e_ w10 ⟨rfl, hb⟩
            refine ⟨_, rfl, ?_⟩
            replace HXs := HXs.low hb
            replace HR := HR.low hb
            replace HXu := HXu.low hb
            replace HB := HB.trans (hb.mono HB.size)
            clear hb
            refine Fw.gT (d := 67) rfl rfl ?_
            refine Fw.s (Fw.val_move rfl) rfl ?_
            refine Fw.gT (d := 67) rfl rfl ?_
            refine Fw.s (Fw.Val.T (Fw.val_bin rfl rfl Fw.b_eql) (by rw [Us.repL_no hn1])) rfl ?_
            refine Fw.s (Fw.val_pickT rfl rfl) rfl ?_
            refine Fw.s (Fw.val_assign rfl) rfl ?_
            refine Fw.nil ?_
            refine hK21 _ _ (Fw.FC.sub (f' := [(6, _)]) (.cons rfl .nil) ?_)
            refine Fw.ret ?_
            refine Fw.X_ret ?_
            refine Fw.ret_ [.tmp 6] [_] Try.results7 (.tmp rfl .nil) ?_
            exact ⟨rfl, HB⟩
          · rintro hq
            refine Fw.nil ?_
            refine hK18 _ _ (Fw.FC.sub (f' := [(55, _), (11, _), (9, _), (7, _), (5, _)]) (.cons rfl (.cons rfl (.cons rfl (.cons rfl (.cons rfl .nil))))) ?_)
            refine Fw.condF rfl ?_
            refine Fw.skip ?_
            refine hK17 _ _ ?_
            refine Fw.seq fun _ hK22 => ?_
            refine Fw.region ?_
            refine Fw.s (Fw.val_move rfl) rfl ?_
            refine Fw.ldA ag45 rfl (Fw.rdBlk HXs) rfl rfl ?_
            refine Fw.s (Fw.val_fieldAddr fl32_8 rfl rfl) rfl ?_
            refine Fw.ld sc2 rfl (HXu.cell 8) rfl ?_
            refine Fw.s (Fw.val_bin rfl rfl (Fw.b_add (Fw.i64_ok (by omega)))) rfl ?_
            refine Fw.call cf18 rfl rfl (report_any _ w.heap.size p g cf.length L s 5 (u.ep + 1) HR) ?_
            rintro e_ w11 ⟨rfl, HR2, hc⟩
            refine ⟨_, rfl, ?_⟩
            replace HXs := HXs.chg hc (by omega)
            replace HXu := HXu.chg hc (by omega)
            replace HB := HB.trans (hc.below (B := w.heap.size) (fun k e => by omega) HB.size)
            clear hc
            clear HR
            have HR := HR2
            clear HR2
            refine Fw.s (Fw.val_move rfl) rfl ?_
            refine Fw.s (Fw.val_extract rfl rfl) rfl ?_
            refine Fw.s (Fw.val_extract rfl rfl) rfl ?_
            refine Fw.s (Fw.val_assign rfl) rfl ?_
            refine Fw.s (Fw.val_assign rfl) rfl ?_
            refine Fw.nil ?_
            refine hK22 _ _ (Fw.FC.sub (f' := [(15, _), (11, _), (9, _), (7, _), (5, _)]) (.cons rfl (.cons rfl (.cons rfl (.cons rfl (.cons rfl .nil))))) ?_)
            refine Fw.seq fun _ hK23 => ?_
            refine Fw.region ?_
            refine Fw.s (Fw.val_move rfl) rfl ?_
            refine Fw.s (Fw.val_fieldAddr fl45_0 rfl rfl) rfl ?_
            refine Fw.ld sc3 rfl (HXs.cell 0) rfl ?_
            refine Fw.call cf12 rfl rfl (by have := unit_any w11 w.heap.size p g cf.length (Us.repL L s 5 (u.ep + 1)) s.u HR; rw [Us.unitA_in (Us.there_repL.trans hT), (Us.there_repL.trans hT)] at this; exact this) ?_
            rintro e_ w12 ⟨rfl, hb⟩
            refine ⟨_, rfl, ?_⟩
            replace HXs := HXs.low hb
            replace HR := HR.low hb
            replace HXu := HXu.low hb
            replace HB := HB.trans (hb.mono HB.size)
            clear hb
            refine Fw.s (Fw.val_move rfl) rfl ?_
            refine Fw.s (Fw.val_extract rfl rfl) rfl ?_
            refine Fw.s (Fw.val_extract rfl rfl) rfl ?_
            refine Fw.bT (by rfl) ?_
            refine Fw.alloc ze32 rfl ?_
            intro w13 gXv egXv HXv hb
            have ln_gXv : g < gXv := by have := HR.lt; omega
            have fr_HR_gXv := HR.fresh egXv
            have n_gXs_gXv : gXs < gXv := by have := HXs.lt; omega
            have n_gXu_gXv : gXu < gXv := by have := HXu.lt; omega
            have lgXv : w.heap.size ≤ gXv := by have := HB.size; omega
            replace HXs := HXs.low hb
            replace HR := HR.low hb
            replace HXu := HXu.low hb
            replace HB := HB.trans (hb.mono HB.size)
            clear hb
            clear egXv
            refine Fw.storeW sz32 rfl rfl HXv rfl rfl (by exact Fw.oneCells rfl) ?_
            intro w14 N_ hc
            replace HXs := HXs.chg hc (by omega)
            replace HR := HR.chg hc fr_HR_gXv.1 fr_HR_gXv.2
            replace HXu := HXu.chg hc (by omega)
            replace HB := HB.trans (hc.below (B := w.heap.size) (fun k e => by omega) HB.size)
            clear hc
            clear HXv
            have HXv := N_
            clear N_
            refine Fw.s (Fw.val_assign rfl) rfl ?_
            refine Fw.nil ?_
            refine hK23 _ _ (Fw.FC.sub (f' := [(16, _), (15, _), (11, _), (9, _), (7, _), (5, _)]) (.cons rfl (.cons rfl (.cons rfl (.cons rfl (.cons rfl (.cons rfl .nil)))))) ?_)
            refine Fw.seq fun _ hK24 => ?_
            refine Fw.seq fun _ hK25 => ?_
            refine Fw.region ?_
            refine Fw.s (Fw.val_move rfl) rfl ?_
            refine Fw.s2 (Fw.val_bin rfl rfl Fw.b_neq) rfl ?_ ?_
            · rintro hne
              refine Fw.nil ?_
              refine hK25 _ _ ?_
              refine Fw.condT rfl ?_
              refine Fw.seq fun _ hK27 => ?_
              refine Fw.region ?_
              refine Fw.s (Fw.val_move rfl) rfl ?_
              refine Fw.call cf21 rfl rfl (checksum_any w14 w.heap.size p g cf.length (Us.repL L s 5 (u.ep + 1)) HR (by first | omega | (simp only [Us.repL_len]; omega))) ?_
              rintro e_ w15 ⟨rfl, hb⟩
              refine ⟨_, rfl, ?_⟩
              replace HXs := HXs.low hb
              replace HR := HR.low hb
              replace HXu := HXu.low hb
              replace HXv := HXv.low hb
              replace HB := HB.trans (hb.mono HB.size)
              clear hb
              refine Fw.s (Fw.val_move rfl) rfl ?_
              refine Fw.s (Fw.Val.T (Fw.val_bin rfl rfl Fw.b_eql) (by rw [Us.repL_no hne])) rfl ?_
              refine Fw.s (Fw.val_assign rfl) rfl ?_
              refine Fw.nil ?_
              refine hK27 _ _ (Fw.FC.sub (f' := [(6, _)]) (.cons rfl .nil) ?_)
              refine Fw.ret ?_
              refine Fw.X_ret ?_
              refine Fw.ret_ [.tmp 6] [_] Try.results7 (.tmp rfl .nil) ?_
              exact ⟨rfl, HB⟩
            · rintro hne
              refine Fw.nil ?_
              refine hK25 _ _ ?_
              refine Fw.condF rfl ?_
              refine Fw.skip ?_
              refine hK24 _ _ ?_
              refine Fw.seq fun _ hK28 => ?_
              refine Fw.seq fun _ hK29 => ?_
              have hE0 : Us.repE L s 5 (u.ep + 1) = 0 := Classical.byContradiction hne
              have hg1 := Us.get_repL hT hu hE0
              have hn2 := Us.repE_old hg1 (by rw [Us.repU_seq]; omega) 6 (u.ep + 9)
              rw [hg1] at HXv
              refine Fw.region ?_
              refine Fw.s (Fw.val_fieldAddr fl45_4 rfl rfl) rfl ?_
              refine Fw.ld sc2 rfl (HXs.cell 4) rfl ?_
              refine Fw.s (Fw.val_fieldAddr fl32_8 rfl rfl) rfl ?_
              refine Fw.ld sc2 rfl (HXu.cell 8) rfl ?_
              refine Fw.s2 (Fw.val_bin rfl rfl Fw.b_lss) rfl ?_ ?_
              · rintro he
                refine Fw.s (Fw.val_move rfl) rfl ?_
                refine Fw.gT (d := 100) rfl rfl ?_
                refine Fw.s (Fw.val_fieldAddr fl45_2 rfl rfl) rfl ?_
                refine Fw.gT (d := 100) rfl rfl ?_
                refine Fw.ld sc3 rfl (HXs.cell 2) rfl ?_
                refine Fw.gT (d := 100) rfl rfl ?_
                refine Fw.s2 (Fw.val_bin rfl rfl Fw.b_neq) rfl ?_ ?_
                · rintro h6
                  refine Fw.s (Fw.val_pickT rfl rfl) rfl ?_
                  refine Fw.s (Fw.val_move rfl) rfl ?_
                  refine Fw.gT (d := 105) rfl rfl ?_
                  refine Fw.s (Fw.val_fieldAddr fl32_3 rfl rfl) rfl ?_
                  refine Fw.gT (d := 105) rfl rfl ?_
                  refine Fw.ld sc3 rfl (HXv.cell 3) rfl ?_
                  refine Fw.gT (d := 105) rfl rfl ?_
                  refine Fw.s (Fw.val_fieldAddr fl32_3 rfl rfl) rfl ?_
                  refine Fw.gT (d := 105) rfl rfl ?_
                  refine Fw.ld sc3 rfl (HXu.cell 3) rfl ?_
                  refine Fw.gT (d := 105) rfl rfl ?_
                  refine Fw.s (Fw.Val.F (Fw.val_bin rfl rfl Fw.b_neq) (by exact fun h_ => h_ (Us.repU_old he h6).1)) rfl ?_
                  refine Fw.gT (d := 105) rfl rfl ?_
                  refine Fw.s (Fw.val_move rfl) rfl ?_
                  refine Fw.gT (d := 111) rfl rfl ?_
                  refine Fw.s (Fw.val_fieldAddr fl32_7 rfl rfl) rfl ?_
                  refine Fw.gT (d := 111) rfl rfl ?_
                  refine Fw.ld sc2 rfl (HXv.cell 7) rfl ?_
                  refine Fw.gT (d := 111) rfl rfl ?_
                  refine Fw.s (Fw.val_fieldAddr fl32_7 rfl rfl) rfl ?_
                  refine Fw.gT (d := 111) rfl rfl ?_
                  refine Fw.ld sc2 rfl (HXu.cell 7) rfl ?_
                  refine Fw.gT (d := 111) rfl rfl ?_
                  refine Fw.s (Fw.Val.F (Fw.val_bin rfl rfl Fw.b_neq) (by exact fun h_ => h_ (Us.repU_old he h6).2)) rfl ?_
                  refine Fw.gT (d := 105) rfl rfl ?_
                  refine Fw.s (Fw.val_pickF rfl rfl) rfl ?_
                  refine Fw.s (Fw.val_pickT rfl rfl) rfl ?_
                  refine Fw.nil ?_
                  refine hK29 _ _ (Fw.FC.sub (f' := [(118, _), (16, _), (9, _), (7, _), (5, _)]) (.cons rfl (.cons rfl (.cons rfl (.cons rfl (.cons rfl .nil))))) ?_)
                  refine Fw.condF rfl ?_
                  refine Fw.skip ?_
                  refine hK28 _ _ ?_
                  refine Fw.seq fun _ hK32 => ?_
                  refine Fw.region ?_
                  refine Fw.s (Fw.val_move rfl) rfl ?_
                  refine Fw.ldA ag45 rfl (Fw.rdBlk HXs) rfl rfl ?_
                  refine Fw.s (Fw.val_fieldAddr fl32_8 rfl rfl) rfl ?_
                  refine Fw.ld sc2 rfl (HXu.cell 8) rfl ?_
                  refine Fw.s (Fw.val_bin rfl rfl (Fw.b_add (Fw.i64_ok (by omega)))) rfl ?_
                  refine Fw.call cf18 rfl rfl (report_any _ w.heap.size p g cf.length (Us.repL L s 5 (u.ep + 1)) s 6 (u.ep + 9) HR) ?_
                  rintro e_ w16 ⟨rfl, HR2, hc⟩
                  refine ⟨_, rfl, ?_⟩
                  replace HXs := HXs.chg hc (by omega)
                  replace HXu := HXu.chg hc (by omega)
                  replace HXv := HXv.chg hc (by omega)
                  replace HB := HB.trans (hc.below (B := w.heap.size) (fun k e => by omega) HB.size)
                  clear hc
                  clear HR
                  have HR := HR2
                  clear HR2
                  refine Fw.s (Fw.val_move rfl) rfl ?_
                  refine Fw.s (Fw.val_extract rfl rfl) rfl ?_
                  refine Fw.bF (by exact Us.repGone_no hn2) ?_
                  refine Fw.s (Fw.val_extract rfl rfl) rfl ?_
                  refine Fw.s (Fw.val_assign rfl) rfl ?_
                  refine Fw.s (Fw.val_assign rfl) rfl ?_
                  refine Fw.nil ?_
                  refine hK32 _ _ (Fw.FC.sub (f' := [(19, _), (18, _), (16, _), (7, _), (5, _)]) (.cons rfl (.cons rfl (.cons rfl (.cons rfl (.cons rfl .nil))))) ?_)
                  refine Fw.seq fun _ hK33 => ?_
                  refine Fw.region ?_
                  refine Fw.s (Fw.val_move rfl) rfl ?_
                  refine Fw.s (Fw.val_fieldAddr fl45_0 rfl rfl) rfl ?_
                  refine Fw.ld sc3 rfl (HXs.cell 0) rfl ?_
                  refine Fw.call cf12 rfl rfl (by have := unit_any w16 w.heap.size p g cf.length (Us.repL (Us.repL L s 5 (u.ep + 1)) s 6 (u.ep + 9)) s.u HR; rw [Us.unitA_in (Us.there_repL.trans (Us.there_repL.trans hT)), (Us.there_repL.trans (Us.there_repL.trans hT))] at this; exact this) ?_
                  rintro e_ w17 ⟨rfl, hb⟩
                  refine ⟨_, rfl, ?_⟩
                  replace HXs := HXs.low hb
                  replace HR := HR.low hb
                  replace HXu := HXu.low hb
                  replace HXv := HXv.low hb
                  replace HB := HB.trans (hb.mono HB.size)
                  clear hb
                  refine Fw.s (Fw.val_move rfl) rfl ?_
                  refine Fw.s (Fw.val_extract rfl rfl) rfl ?_
                  refine Fw.s (Fw.val_extract rfl rfl) rfl ?_
                  refine Fw.bT (by rfl) ?_
                  refine Fw.alloc ze32 rfl ?_
                  intro w18 gXw egXw HXw hb
                  have ln_gXw : g < gXw := by have := HR.lt; omega
                  have fr_HR_gXw := HR.fresh egXw
                  have n_gXs_gXw : gXs < gXw := by have := HXs.lt; omega
                  have n_gXu_gXw : gXu < gXw := by have := HXu.lt; omega
                  have n_gXv_gXw : gXv < gXw := by have := HXv.lt; omega
                  have lgXw : w.heap.size ≤ gXw := by have := HB.size; omega
                  replace HXs := HXs.low hb
                  replace HR := HR.low hb
                  replace HXu := HXu.low hb
                  replace HXv := HXv.low hb
                  replace HB := HB.trans (hb.mono HB.size)
                  clear hb
                  clear egXw
                  refine Fw.storeW sz32 rfl rfl HXw rfl rfl (by exact Fw.oneCells rfl) ?_
                  intro w19 N_ hc
                  replace HXs := HXs.chg hc (by omega)
                  replace HR := HR.chg hc fr_HR_gXw.1 fr_HR_gXw.2
                  replace HXu := HXu.chg hc (by omega)
                  replace HXv := HXv.chg hc (by omega)
                  replace HB := HB.trans (hc.below (B := w.heap.size) (fun k e => by omega) HB.size)
                  clear hc
                  clear HXw
                  have HXw := N_
                  clear N_
                  refine Fw.s (Fw.val_assign rfl) rfl ?_
                  refine Fw.nil ?_
                  refine hK33 _ _ (Fw.FC.sub (f' := [(20, _), (19, _), (18, _), (16, _)]) (.cons rfl (.cons rfl (.cons rfl (.cons rfl .nil)))) ?_)
                  refine Fw.seq fun _ hK34 => ?_
                  refine Fw.region ?_
                  refine Fw.s (Fw.val_move rfl) rfl ?_
                  refine Fw.s (Fw.val_not rfl) rfl ?_
                  refine Fw.s (Fw.val_move rfl) rfl ?_
                  refine Fw.gT (d := 137) rfl rfl ?_
                  refine Fw.s (Fw.val_move rfl) rfl ?_
                  refine Fw.gT (d := 137) rfl rfl ?_
                  refine Fw.s (Fw.Val.T (Fw.val_bin rfl rfl Fw.b_neq) (by exact hn2)) rfl ?_
                  refine Fw.s (Fw.val_pickT rfl rfl) rfl ?_
                  refine Fw.s (Fw.val_move rfl) rfl ?_
                  refine Fw.gT (d := 141) rfl rfl ?_
                  refine Fw.ldA ag32 rfl (Fw.rdBlk HXw) rfl rfl ?_
                  refine Fw.gT (d := 141) rfl rfl ?_
                  refine Fw.ldA ag32 rfl (Fw.rdBlk HXv) rfl rfl ?_
                  refine Fw.gT (d := 141) rfl rfl ?_
                  refine Fw.s (Fw.Val.T (Fw.val_bin rfl rfl (Fw.b_eqlA eq32 (Us.get (Us.repL (Us.repL L s 5 (u.ep + 1)) s 6 (u.ep + 9)) s.u).headI (Us.repU u s 5 (u.ep + 1)).headI rfl rfl)) (by rw [Us.repL_no hn2, hg1])) rfl ?_
                  refine Fw.s (Fw.val_pickT rfl rfl) rfl ?_
                  refine Fw.s (Fw.val_assign rfl) rfl ?_
                  refine Fw.nil ?_
                  refine hK34 _ _ (Fw.FC.sub (f' := [(6, _)]) (.cons rfl .nil) ?_)
                  refine Fw.ret ?_
                  refine Fw.ret_ [.tmp 6] [_] Try.results7 (.tmp rfl .nil) ?_
                  exact ⟨rfl, HB⟩
                · rintro h6
                  refine Fw.s (Fw.val_pickT rfl rfl) rfl ?_
                  refine Fw.s (Fw.val_move rfl) rfl ?_
                  refine Fw.gF (d := 105) rfl rfl rfl rfl ?_
                  refine Fw.gF (d := 105) rfl rfl rfl rfl ?_
                  refine Fw.gF (d := 105) rfl rfl rfl rfl ?_
                  refine Fw.gF (d := 105) rfl rfl rfl rfl ?_
                  refine Fw.gF (d := 105) rfl rfl rfl rfl ?_
                  refine Fw.gF (d := 105) rfl rfl rfl rfl ?_
                  refine Fw.gU (d := 111) rfl rfl rfl ?_
                  refine Fw.gU (d := 111) rfl rfl rfl ?_
                  refine Fw.gU (d := 111) rfl rfl rfl ?_
                  refine Fw.gU (d := 111) rfl rfl rfl ?_
                  refine Fw.gU (d := 111) rfl rfl rfl ?_
                  refine Fw.gF (d := 105) rfl rfl rfl rfl ?_
                  refine Fw.s (Fw.val_pickF rfl rfl) rfl ?_
                  refine Fw.nil ?_
                  refine hK29 _ _ (Fw.FC.sub (f' := [(118, _), (16, _), (9, _), (7, _), (5, _)]) (.cons rfl (.cons rfl (.cons rfl (.cons rfl (.cons rfl .nil))))) ?_)
                  refine Fw.condF rfl ?_
                  refine Fw.skip ?_
                  refine hK28 _ _ ?_
                  refine Fw.seq fun _ hK35 => ?_
                  refine Fw.region ?_
                  refine Fw.s (Fw.val_move rfl) rfl ?_
                  refine Fw.ldA ag45 rfl (Fw.rdBlk HXs) rfl rfl ?_
                  refine Fw.s (Fw.val_fieldAddr fl32_8 rfl rfl) rfl ?_
                  refine Fw.ld sc2 rfl (HXu.cell 8) rfl ?_
                  refine Fw.s (Fw.val_bin rfl rfl (Fw.b_add (Fw.i64_ok (by omega)))) rfl ?_
                  refine Fw.call cf18 rfl rfl (report_any _ w.heap.size p g cf.length (Us.repL L s 5 (u.ep + 1)) s 6 (u.ep + 9) HR) ?_
                  rintro e_ w20 ⟨rfl, HR2, hc⟩
                  refine ⟨_, rfl, ?_⟩
                  replace HXs := HXs.chg hc (by omega)
                  replace HXu := HXu.chg hc (by omega)
                  replace HXv := HXv.chg hc (by omega)
                  replace HB := HB.trans (hc.below (B := w.heap.size) (fun k e => by omega) HB.size)
                  clear hc
                  clear HR
                  have HR := HR2
                  clear HR2
                  refine Fw.s (Fw.val_move rfl) rfl ?_
                  refine Fw.s (Fw.val_extract rfl rfl) rfl ?_
                  refine Fw.bF (by exact Us.repGone_no hn2) ?_
                  refine Fw.s (Fw.val_extract rfl rfl) rfl ?_
                  refine Fw.s (Fw.val_assign rfl) rfl ?_
                  refine Fw.s (Fw.val_assign rfl) rfl ?_
                  refine Fw.nil ?_
                  refine hK35 _ _ (Fw.FC.sub (f' := [(19, _), (18, _), (16, _), (7, _), (5, _)]) (.cons rfl (.cons rfl (.cons rfl (.cons rfl (.cons rfl .nil))))) ?_)
                  refine Fw.seq fun _ hK36 => ?_
                  refine Fw.region ?_
                  refine Fw.s (Fw.val_move rfl) rfl ?_
                  refine Fw.s (Fw.val_fieldAddr fl45_0 rfl rfl) rfl ?_
                  refine Fw.ld sc3 rfl (HXs.cell 0) rfl ?_
                  refine Fw.call cf12 rfl rfl (by have := unit_any w20 w.heap.size p g cf.length (Us.repL (Us.repL L s 5 (u.ep + 1)) s 6 (u.ep + 9)) s.u HR; rw [Us.unitA_in (Us.there_repL.trans (Us.there_repL.trans hT)), (Us.there_repL.trans (Us.there_repL.trans hT))] at this; exact this) ?_
                  rintro e_ w21 ⟨rfl, hb⟩
                  refine ⟨_, rfl, ?_⟩
                  replace HXs := HXs.low hb
                  replace HR := HR.low hb
                  replace HXu := HXu.low hb
                  replace HXv := HXv.low hb
                  replace HB := HB.trans (hb.mono HB.size)
                  clear hb
                  refine Fw.s (Fw.val_move rfl) rfl ?_
                  refine Fw.s (Fw.val_extract rfl rfl) rfl ?_
                  refine Fw.s (Fw.val_extract rfl rfl) rfl ?_
                  refine Fw.bT (by rfl) ?_
                  refine Fw.alloc ze32 rfl ?_
                  intro w22 gXw egXw HXw hb
                  have ln_gXw : g < gXw := by have := HR.lt; omega
                  have fr_HR_gXw := HR.fresh egXw
                  have n_gXs_gXw : gXs < gXw := by have := HXs.lt; omega
                  have n_gXu_gXw : gXu < gXw := by have := HXu.lt; omega
                  have n_gXv_gXw : gXv < gXw := by have := HXv.lt; omega
                  have lgXw : w.heap.size ≤ gXw := by have := HB.size; omega
                  replace HXs := HXs.low hb
                  replace HR := HR.low hb
                  replace HXu := HXu.low hb
                  replace HXv := HXv.low hb
                  replace HB := HB.trans (hb.mono HB.size)
                  clear hb
                  clear egXw
                  refine Fw.storeW sz32 rfl rfl HXw rfl rfl (by exact Fw.oneCells rfl) ?_
                  intro w23 N_ hc
                  replace HXs := HXs.chg hc (by omega)
                  replace HR := HR.chg hc fr_HR_gXw.1 fr_HR_gXw.2
                  replace HXu := HXu.chg hc (by omega)
                  replace HXv := HXv.chg hc (by omega)
                  replace HB := HB.trans (hc.below (B := w.heap.size) (fun k e => by omega) HB.size)
                  clear hc
                  clear HXw
                  have HXw := N_
                  clear N_
                  refine Fw.s (Fw.val_assign rfl) rfl ?_
                  refine Fw.nil ?_
                  refine hK36 _ _ (Fw.FC.sub (f' := [(20, _), (19, _), (18, _), (16, _)]) (.cons rfl (.cons rfl (.cons rfl (.cons rfl .nil)))) ?_)
                  refine Fw.seq fun _ hK37 => ?_
                  refine Fw.region ?_
                  refine Fw.s (Fw.val_move rfl) rfl ?_
                  refine Fw.s (Fw.val_not rfl) rfl ?_
                  refine Fw.s (Fw.val_move rfl) rfl ?_
                  refine Fw.gT (d := 137) rfl rfl ?_
                  refine Fw.s (Fw.val_move rfl) rfl ?_
                  refine Fw.gT (d := 137) rfl rfl ?_
                  refine Fw.s (Fw.Val.T (Fw.val_bin rfl rfl Fw.b_neq) (by exact hn2)) rfl ?_
                  refine Fw.s (Fw.val_pickT rfl rfl) rfl ?_
                  refine Fw.s (Fw.val_move rfl) rfl ?_
                  refine Fw.gT (d := 141) rfl rfl ?_
                  refine Fw.ldA ag32 rfl (Fw.rdBlk HXw) rfl rfl ?_
                  refine Fw.gT (d := 141) rfl rfl ?_
                  refine Fw.ldA ag32 rfl (Fw.rdBlk HXv) rfl rfl ?_
                  refine Fw.gT (d := 141) rfl rfl ?_
                  refine Fw.s (Fw.Val.T (Fw.val_bin rfl rfl (Fw.b_eqlA eq32 (Us.get (Us.repL (Us.repL L s 5 (u.ep + 1)) s 6 (u.ep + 9)) s.u).headI (Us.repU u s 5 (u.ep + 1)).headI rfl rfl)) (by rw [Us.repL_no hn2, hg1])) rfl ?_
                  refine Fw.s (Fw.val_pickT rfl rfl) rfl ?_
                  refine Fw.s (Fw.val_assign rfl) rfl ?_
                  refine Fw.nil ?_
                  refine hK37 _ _ (Fw.FC.sub (f' := [(6, _)]) (.cons rfl .nil) ?_)
                  refine Fw.ret ?_
                  refine Fw.ret_ [.tmp 6] [_] Try.results7 (.tmp rfl .nil) ?_
                  exact ⟨rfl, HB⟩
              · rintro he
                refine Fw.s (Fw.val_move rfl) rfl ?_
                refine Fw.gF (d := 100) rfl rfl rfl rfl ?_
                refine Fw.gF (d := 100) rfl rfl rfl rfl ?_
                refine Fw.gF (d := 100) rfl rfl rfl rfl ?_
                refine Fw.s (Fw.val_pickF rfl rfl) rfl ?_
                refine Fw.s (Fw.val_move rfl) rfl ?_
                refine Fw.gF (d := 105) rfl rfl rfl rfl ?_
                refine Fw.gF (d := 105) rfl rfl rfl rfl ?_
                refine Fw.gF (d := 105) rfl rfl rfl rfl ?_
                refine Fw.gF (d := 105) rfl rfl rfl rfl ?_
                refine Fw.gF (d := 105) rfl rfl rfl rfl ?_
                refine Fw.gF (d := 105) rfl rfl rfl rfl ?_
                refine Fw.gU (d := 111) rfl rfl rfl ?_
                refine Fw.gU (d := 111) rfl rfl rfl ?_
                refine Fw.gU (d := 111) rfl rfl rfl ?_
                refine Fw.gU (d := 111) rfl rfl rfl ?_
                refine Fw.gU (d := 111) rfl rfl rfl ?_
                refine Fw.gF (d := 105) rfl rfl rfl rfl ?_
                refine Fw.s (Fw.val_pickF rfl rfl) rfl ?_
                refine Fw.nil ?_
                refine hK29 _ _ (Fw.FC.sub (f' := [(118, _), (16, _), (9, _), (7, _), (5, _)]) (.cons rfl (.cons rfl (.cons rfl (.cons rfl (.cons rfl .nil))))) ?_)
                refine Fw.condF rfl ?_
                refine Fw.skip ?_
                refine hK28 _ _ ?_
                refine Fw.seq fun _ hK38 => ?_
                refine Fw.region ?_
                refine Fw.s (Fw.val_move rfl) rfl ?_
                refine Fw.ldA ag45 rfl (Fw.rdBlk HXs) rfl rfl ?_
                refine Fw.s (Fw.val_fieldAddr fl32_8 rfl rfl) rfl ?_
                refine Fw.ld sc2 rfl (HXu.cell 8) rfl ?_
                refine Fw.s (Fw.val_bin rfl rfl (Fw.b_add (Fw.i64_ok (by omega)))) rfl ?_
                refine Fw.call cf18 rfl rfl (report_any _ w.heap.size p g cf.length (Us.repL L s 5 (u.ep + 1)) s 6 (u.ep + 9) HR) ?_
                rintro e_ w24 ⟨rfl, HR2, hc⟩
                refine ⟨_, rfl, ?_⟩
                replace HXs := HXs.chg hc (by omega)
                replace HXu := HXu.chg hc (by omega)
                replace HXv := HXv.chg hc (by omega)
                replace HB := HB.trans (hc.below (B := w.heap.size) (fun k e => by omega) HB.size)
                clear hc
                clear HR
                have HR := HR2
                clear HR2
                refine Fw.s (Fw.val_move rfl) rfl ?_
                refine Fw.s (Fw.val_extract rfl rfl) rfl ?_
                refine Fw.bF (by exact Us.repGone_no hn2) ?_
                refine Fw.s (Fw.val_extract rfl rfl) rfl ?_
                refine Fw.s (Fw.val_assign rfl) rfl ?_
                refine Fw.s (Fw.val_assign rfl) rfl ?_
                refine Fw.nil ?_
                refine hK38 _ _ (Fw.FC.sub (f' := [(19, _), (18, _), (16, _), (7, _), (5, _)]) (.cons rfl (.cons rfl (.cons rfl (.cons rfl (.cons rfl .nil))))) ?_)
                refine Fw.seq fun _ hK39 => ?_
                refine Fw.region ?_
                refine Fw.s (Fw.val_move rfl) rfl ?_
                refine Fw.s (Fw.val_fieldAddr fl45_0 rfl rfl) rfl ?_
                refine Fw.ld sc3 rfl (HXs.cell 0) rfl ?_
                refine Fw.call cf12 rfl rfl (by have := unit_any w24 w.heap.size p g cf.length (Us.repL (Us.repL L s 5 (u.ep + 1)) s 6 (u.ep + 9)) s.u HR; rw [Us.unitA_in (Us.there_repL.trans (Us.there_repL.trans hT)), (Us.there_repL.trans (Us.there_repL.trans hT))] at this; exact this) ?_
                rintro e_ w25 ⟨rfl, hb⟩
                refine ⟨_, rfl, ?_⟩
                replace HXs := HXs.low hb
                replace HR := HR.low hb
                replace HXu := HXu.low hb
                replace HXv := HXv.low hb
                replace HB := HB.trans (hb.mono HB.size)
                clear hb
                refine Fw.s (Fw.val_move rfl) rfl ?_
                refine Fw.s (Fw.val_extract rfl rfl) rfl ?_
                refine Fw.s (Fw.val_extract rfl rfl) rfl ?_
                refine Fw.bT (by rfl) ?_
                refine Fw.alloc ze32 rfl ?_
                intro w26 gXw egXw HXw hb
                have ln_gXw : g < gXw := by have := HR.lt; omega
                have fr_HR_gXw := HR.fresh egXw
                have n_gXs_gXw : gXs < gXw := by have := HXs.lt; omega
                have n_gXu_gXw : gXu < gXw := by have := HXu.lt; omega
                have n_gXv_gXw : gXv < gXw := by have := HXv.lt; omega
                have lgXw : w.heap.size ≤ gXw := by have := HB.size; omega
                replace HXs := HXs.low hb
                replace HR := HR.low hb
                replace HXu := HXu.low hb
                replace HXv := HXv.low hb
                replace HB := HB.trans (hb.mono HB.size)
                clear hb
                clear egXw
                refine Fw.storeW sz32 rfl rfl HXw rfl rfl (by exact Fw.oneCells rfl) ?_
                intro w27 N_ hc
                replace HXs := HXs.chg hc (by omega)
                replace HR := HR.chg hc fr_HR_gXw.1 fr_HR_gXw.2
                replace HXu := HXu.chg hc (by omega)
                replace HXv := HXv.chg hc (by omega)
                replace HB := HB.trans (hc.below (B := w.heap.size) (fun k e => by omega) HB.size)
                clear hc
                clear HXw
                have HXw := N_
                clear N_
                refine Fw.s (Fw.val_assign rfl) rfl ?_
                refine Fw.nil ?_
                refine hK39 _ _ (Fw.FC.sub (f' := [(20, _), (19, _), (18, _), (16, _)]) (.cons rfl (.cons rfl (.cons rfl (.cons rfl .nil)))) ?_)
                refine Fw.seq fun _ hK40 => ?_
                refine Fw.region ?_
                refine Fw.s (Fw.val_move rfl) rfl ?_
                refine Fw.s (Fw.val_not rfl) rfl ?_
                refine Fw.s (Fw.val_move rfl) rfl ?_
                refine Fw.gT (d := 137) rfl rfl ?_
                refine Fw.s (Fw.val_move rfl) rfl ?_
                refine Fw.gT (d := 137) rfl rfl ?_
                refine Fw.s (Fw.Val.T (Fw.val_bin rfl rfl Fw.b_neq) (by exact hn2)) rfl ?_
                refine Fw.s (Fw.val_pickT rfl rfl) rfl ?_
                refine Fw.s (Fw.val_move rfl) rfl ?_
                refine Fw.gT (d := 141) rfl rfl ?_
                refine Fw.ldA ag32 rfl (Fw.rdBlk HXw) rfl rfl ?_
                refine Fw.gT (d := 141) rfl rfl ?_
                refine Fw.ldA ag32 rfl (Fw.rdBlk HXv) rfl rfl ?_
                refine Fw.gT (d := 141) rfl rfl ?_
                refine Fw.s (Fw.Val.T (Fw.val_bin rfl rfl (Fw.b_eqlA eq32 (Us.get (Us.repL (Us.repL L s 5 (u.ep + 1)) s 6 (u.ep + 9)) s.u).headI (Us.repU u s 5 (u.ep + 1)).headI rfl rfl)) (by rw [Us.repL_no hn2, hg1])) rfl ?_
                refine Fw.s (Fw.val_pickT rfl rfl) rfl ?_
                refine Fw.s (Fw.val_assign rfl) rfl ?_
                refine Fw.nil ?_
                refine hK40 _ _ (Fw.FC.sub (f' := [(6, _)]) (.cons rfl .nil) ?_)
                refine Fw.ret ?_
                refine Fw.ret_ [.tmp 6] [_] Try.results7 (.tmp rfl .nil) ?_
                exact ⟨rfl, HB⟩
    | false =>
      refine Fw.calls Try.func7 rfl Try.ntmps7 rfl ?_
      have HB := Below.refl (w.heap.size) w
      refine Fw.seq fun _ hK1 => ?_
      refine Fw.region ?_
      refine Fw.box rfl rfl ?_
      intro w1 gXs egXs HXs hb
      have lgXs : w.heap.size ≤ gXs := by have := HB.size; omega
      replace HB := HB.trans (hb.mono HB.size)
      clear hb
      clear egXs
      refine Fw.s (Fw.val_assign rfl) rfl ?_
      refine Fw.nil ?_
      refine hK1 _ _ ?_
      refine Fw.seq fun _ hK2 => ?_
      refine Fw.seq fun _ hK3 => ?_
      refine Fw.region ?_
      refine Fw.call cf9 rfl rfl (wakes_any _) ?_
      rintro e_ w2 ⟨rfl, hb⟩
      refine ⟨_, rfl, ?_⟩
      replace HXs := HXs.low hb
      replace HB := HB.trans (hb.mono HB.size)
      clear hb
      refine Fw.bT (by rfl) ?_
      refine Fw.s (Fw.val_not rfl) rfl ?_
      refine Fw.nil ?_
      refine hK3 _ _ ?_
      refine Fw.condF rfl ?_
      refine Fw.skip ?_
      refine hK2 _ _ ?_
      refine Fw.seq fun _ hK4 => ?_
      refine Fw.seq fun _ hK5 => ?_
      refine Fw.region ?_
      refine Fw.s (Fw.val_move rfl) rfl ?_
      refine Fw.s (Fw.val_len Try.underlying22 rfl) rfl ?_
      refine Fw.s2 (Fw.val_bin rfl rfl Fw.b_gtr) rfl ?_ ?_
      · rintro hn1
        refine Fw.s (Fw.val_move rfl) rfl ?_
        refine Fw.gF (d := 27) rfl rfl rfl rfl ?_
        refine Fw.gF (d := 27) rfl rfl rfl rfl ?_
        refine Fw.gF (d := 27) rfl rfl rfl rfl ?_
        refine Fw.s (Fw.val_pickT rfl rfl) rfl ?_
        refine Fw.nil ?_
        refine hK5 _ _ (Fw.FC.sub (f' := [(31, _), (5, _), (0, _), (1, _)]) (.cons rfl (.cons rfl (.cons rfl (.cons rfl .nil)))) ?_)
        refine Fw.condT rfl ?_
        refine Fw.seq fun _ hK7 => ?_
        refine Fw.region ?_
        refine Fw.s (Fw.val_assign rfl) rfl ?_
        refine Fw.nil ?_
        refine hK7 _ _ ?_
        refine Fw.ret ?_
        refine Fw.X_ret ?_
        refine Fw.ret_ [.tmp 6] [_] Try.results7 (.tmp rfl .nil) ?_
        exact ⟨rfl, HB⟩
      · rintro hn1
        refine Fw.s (Fw.val_move rfl) rfl ?_
        refine Fw.gT (d := 27) rfl rfl ?_
        refine Fw.s (Fw.val_move rfl) rfl ?_
        refine Fw.gT (d := 27) rfl rfl ?_
        refine Fw.s (Fw.val_len Try.underlying43 rfl) rfl ?_
        refine Fw.gT (d := 27) rfl rfl ?_
        refine Fw.s2 (Fw.val_bin rfl rfl Fw.b_gtr) rfl ?_ ?_
        · rintro hn2
          refine Fw.s (Fw.val_pickF rfl rfl) rfl ?_
          refine Fw.nil ?_
          refine hK5 _ _ (Fw.FC.sub (f' := [(31, _), (5, _), (0, _), (1, _)]) (.cons rfl (.cons rfl (.cons rfl (.cons rfl .nil)))) ?_)
          refine Fw.condT rfl ?_
          refine Fw.seq fun _ hK9 => ?_
          refine Fw.region ?_
          refine Fw.s (Fw.val_assign rfl) rfl ?_
          refine Fw.nil ?_
          refine hK9 _ _ ?_
          refine Fw.ret ?_
          refine Fw.X_ret ?_
          refine Fw.ret_ [.tmp 6] [_] Try.results7 (.tmp rfl .nil) ?_
          exact ⟨rfl, HB⟩
        · rintro hn2
          refine Fw.s (Fw.val_pickF rfl rfl) rfl ?_
          refine Fw.nil ?_
          refine hK5 _ _ (Fw.FC.sub (f' := [(31, _), (5, _), (0, _), (1, _)]) (.cons rfl (.cons rfl (.cons rfl (.cons rfl .nil)))) ?_)
          refine Fw.condF rfl ?_
          refine Fw.skip ?_
          refine hK4 _ _ ?_
          refine Fw.seq fun _ hK10 => ?_
          refine Fw.region ?_
          refine Fw.s (Fw.val_move rfl) rfl ?_
          refine Fw.s (Fw.val_move rfl) rfl ?_
          refine Fw.call cf17 rfl rfl (play_any _ A cf c0 A2 acts c2 (h.low HB) (h2.low HB) (by omega)) ?_
          rintro e_ w3 ⟨x, rfl, hx, hb⟩
          refine ⟨_, rfl, ?_⟩
          have hs0 := HB.size
          have hxq := HXs.lt
          replace HXs := HXs.low hb
          replace HB := HB.trans (hb.mono HB.size)
          clear hb
          obtain ⟨hle, p, g, rfl, HR⟩ := hx hE
          have lgq := HR.2.1
          replace HR := HR.mono hs0
          have lp := HR.1
          have lg := HR.2.1
          rw [decide_eq_true hE]
          obtain ⟨L, hL⟩ : ∃ L, L = Us.playL (Us.newL cf) acts := ⟨_, rfl⟩
          rw [← hL] at HR
          have hG : Us.Good L := hL ▸ (Us.good_new hE).play acts
          have hLl : L.length = cf.length := by rw [hL, Us.playL_len, Us.newL_len]
          have hT : Us.there L s.u = false := by rw [hL]; exact hth
          refine Fw.s (Fw.val_move rfl) rfl ?_
          refine Fw.s (Fw.val_extract rfl rfl) rfl ?_
          refine Fw.s (Fw.val_extract rfl rfl) rfl ?_
          refine Fw.bT (by rfl) ?_
          refine Fw.s (Fw.val_assign rfl) rfl ?_
          refine Fw.s (Fw.val_assign rfl) rfl ?_
          refine Fw.nil ?_
          refine hK10 _ _ (Fw.FC.sub (f' := [(8, _), (7, _), (5, _)]) (.cons rfl (.cons rfl (.cons rfl .nil))) ?_)
          refine Fw.seq fun _ hK11 => ?_
          refine Fw.region ?_
          refine Fw.s (Fw.val_build (ps := []) rfl (bu32_)) rfl ?_
          refine Fw.alloc ze32 rfl ?_
          intro w4 gXu egXu HXu hb
          have ln_gXu : g < gXu := by have := HR.lt; omega
          have fr_HR_gXu := HR.fresh egXu
          have n_gXs_gXu : gXs < gXu := by have := HXs.lt; omega
          have lgXu : w.heap.size ≤ gXu := by have := HB.size; omega
          replace HXs := HXs.low hb
          replace HR := HR.low hb
          replace HB := HB.trans (hb.mono HB.size)
          clear hb
          clear egXu
          refine Fw.storeW sz32 rfl rfl HXu rfl rfl (by exact Fw.oneCells rfl) ?_
          intro w5 N_ hc
          replace HXs := HXs.chg hc (by omega)
          replace HR := HR.chg hc fr_HR_gXu.1 fr_HR_gXu.2
          replace HB := HB.trans (hc.below (B := w.heap.size) (fun k e => by omega) HB.size)
          clear hc
          clear HXu
          have HXu := N_
          clear N_
          refine Fw.s (Fw.val_assign rfl) rfl ?_
          refine Fw.nil ?_
          refine hK11 _ _ ?_
          refine Fw.seq fun _ hK12 => ?_
          refine Fw.seq fun _ hK13 => ?_
          refine Fw.region ?_
          refine Fw.s (Fw.val_move rfl) rfl ?_
          refine Fw.nil ?_
          refine hK13 _ _ ?_
          refine Fw.condT rfl ?_
          refine Fw.region ?_
          refine Fw.s (Fw.val_move rfl) rfl ?_
          refine Fw.s (Fw.val_fieldAddr fl45_0 rfl rfl) rfl ?_
          refine Fw.ld sc3 rfl (HXs.cell 0) rfl ?_
          refine Fw.call cf12 rfl rfl (unit_out _ w.heap.size p g cf.length L s.u hT HR) ?_
          rintro e_ w6 ⟨rfl, hb⟩
          refine ⟨_, rfl, ?_⟩
          replace HXs := HXs.low hb
          replace HR := HR.low hb
          replace HXu := HXu.low hb
          replace HB := HB.trans (hb.mono HB.size)
          clear hb
          refine Fw.s (Fw.val_move rfl) rfl ?_
          refine Fw.s (Fw.val_extract rfl rfl) rfl ?_
          refine Fw.s (Fw.val_extract rfl rfl) rfl ?_
          refine Fw.bF (by rfl) ?_
          refine Fw.storeW sz32 rfl rfl HXu rfl rfl (by exact Fw.oneCells rfl) ?_
          intro w7 N_ hc
          replace HXs := HXs.chg hc (by omega)
          replace HR := HR.chg hc fr_HR_gXu.1 fr_HR_gXu.2
          replace HB := HB.trans (hc.below (B := w.heap.size) (fun k e => by omega) HB.size)
          clear hc
          clear HXu
          have HXu := N_
          clear N_
          refine Fw.s (Fw.val_assign rfl) rfl ?_
          refine Fw.nil ?_
          refine hK12 _ _ (Fw.FC.sub (f' := [(10, _), (9, _), (7, _), (5, _)]) (.cons rfl (.cons rfl (.cons rfl (.cons rfl .nil)))) ?_)
          refine Fw.seq fun _ hK14 => ?_
          refine Fw.seq fun _ hK15 => ?_
          refine Fw.region ?_
          refine Fw.s (Fw.val_move rfl) rfl ?_
          refine Fw.s (Fw.val_not rfl) rfl ?_
          refine Fw.nil ?_
          refine hK15 _ _ ?_
          refine Fw.condT rfl ?_
          refine Fw.seq fun _ hK16 => ?_
          refine Fw.region ?_
          refine Fw.s (Fw.val_assign rfl) rfl ?_
          refine Fw.nil ?_
          refine hK16 _ _ ?_
          refine Fw.ret ?_
          refine Fw.X_ret ?_
          refine Fw.ret_ [.tmp 6] [_] Try.results7 (.tmp rfl .nil) ?_
          exact ⟨rfl, HB⟩
  · skip
    refine Fw.calls Try.func7 rfl Try.ntmps7 rfl ?_
    have HB := Below.refl (w.heap.size) w
    refine Fw.seq fun _ hK1 => ?_
    refine Fw.region ?_
    refine Fw.box rfl rfl ?_
    intro w1 gXs egXs HXs hb
    have lgXs : w.heap.size ≤ gXs := by have := HB.size; omega
    replace HB := HB.trans (hb.mono HB.size)
    clear hb
    clear egXs
    refine Fw.s (Fw.val_assign rfl) rfl ?_
    refine Fw.nil ?_
    refine hK1 _ _ ?_
    refine Fw.seq fun _ hK2 => ?_
    refine Fw.seq fun _ hK3 => ?_
    refine Fw.region ?_
    refine Fw.call cf9 rfl rfl (wakes_any _) ?_
    rintro e_ w2 ⟨rfl, hb⟩
    refine ⟨_, rfl, ?_⟩
    replace HXs := HXs.low hb
    replace HB := HB.trans (hb.mono HB.size)
    clear hb
    refine Fw.bT (by rfl) ?_
    refine Fw.s (Fw.val_not rfl) rfl ?_
    refine Fw.nil ?_
    refine hK3 _ _ ?_
    refine Fw.condF rfl ?_
    refine Fw.skip ?_
    refine hK2 _ _ ?_
    refine Fw.seq fun _ hK4 => ?_
    refine Fw.seq fun _ hK5 => ?_
    refine Fw.region ?_
    refine Fw.s (Fw.val_move rfl) rfl ?_
    refine Fw.s (Fw.val_len Try.underlying22 rfl) rfl ?_
    refine Fw.s2 (Fw.val_bin rfl rfl Fw.b_gtr) rfl ?_ ?_
    · rintro hn1
      refine Fw.s (Fw.val_move rfl) rfl ?_
      refine Fw.gF (d := 27) rfl rfl rfl rfl ?_
      refine Fw.gF (d := 27) rfl rfl rfl rfl ?_
      refine Fw.gF (d := 27) rfl rfl rfl rfl ?_
      refine Fw.s (Fw.val_pickT rfl rfl) rfl ?_
      refine Fw.nil ?_
      refine hK5 _ _ (Fw.FC.sub (f' := [(31, _), (5, _), (0, _), (1, _)]) (.cons rfl (.cons rfl (.cons rfl (.cons rfl .nil)))) ?_)
      refine Fw.condT rfl ?_
      refine Fw.seq fun _ hK7 => ?_
      refine Fw.region ?_
      refine Fw.s (Fw.val_assign rfl) rfl ?_
      refine Fw.nil ?_
      refine hK7 _ _ ?_
      refine Fw.ret ?_
      refine Fw.X_ret ?_
      refine Fw.ret_ [.tmp 6] [_] Try.results7 (.tmp rfl .nil) ?_
      exact ⟨rfl, HB⟩
    · rintro hn1
      refine Fw.s (Fw.val_move rfl) rfl ?_
      refine Fw.gT (d := 27) rfl rfl ?_
      refine Fw.s (Fw.val_move rfl) rfl ?_
      refine Fw.gT (d := 27) rfl rfl ?_
      refine Fw.s (Fw.val_len Try.underlying43 rfl) rfl ?_
      refine Fw.gT (d := 27) rfl rfl ?_
      refine Fw.s2 (Fw.val_bin rfl rfl Fw.b_gtr) rfl ?_ ?_
      · rintro hn2
        refine Fw.s (Fw.val_pickF rfl rfl) rfl ?_
        refine Fw.nil ?_
        refine hK5 _ _ (Fw.FC.sub (f' := [(31, _), (5, _), (0, _), (1, _)]) (.cons rfl (.cons rfl (.cons rfl (.cons rfl .nil)))) ?_)
        refine Fw.condT rfl ?_
        refine Fw.seq fun _ hK9 => ?_
        refine Fw.region ?_
        refine Fw.s (Fw.val_assign rfl) rfl ?_
        refine Fw.nil ?_
        refine hK9 _ _ ?_
        refine Fw.ret ?_
        refine Fw.X_ret ?_
        refine Fw.ret_ [.tmp 6] [_] Try.results7 (.tmp rfl .nil) ?_
        exact ⟨rfl, HB⟩
      · rintro hn2
        refine Fw.s (Fw.val_pickF rfl rfl) rfl ?_
        refine Fw.nil ?_
        refine hK5 _ _ (Fw.FC.sub (f' := [(31, _), (5, _), (0, _), (1, _)]) (.cons rfl (.cons rfl (.cons rfl (.cons rfl .nil)))) ?_)
        refine Fw.condF rfl ?_
        refine Fw.skip ?_
        refine hK4 _ _ ?_
        refine Fw.seq fun _ hK10 => ?_
        refine Fw.region ?_
        refine Fw.s (Fw.val_move rfl) rfl ?_
        refine Fw.s (Fw.val_move rfl) rfl ?_
        refine Fw.call cf17 rfl rfl (play_any _ A cf c0 A2 acts c2 (h.low HB) (h2.low HB) (by omega)) ?_
        rintro e_ w3 ⟨x, rfl, -, hb⟩
        refine ⟨_, rfl, ?_⟩
        have hxq := HXs.lt
        replace HXs := HXs.low hb
        replace HB := HB.trans (hb.mono HB.size)
        clear hb
        rw [decide_eq_false hE]
        refine Fw.s (Fw.val_move rfl) rfl ?_
        refine Fw.s (Fw.val_extract rfl rfl) rfl ?_
        refine Fw.s (Fw.val_extract rfl rfl) rfl ?_
        refine Fw.bF (by rfl) ?_
        refine Fw.s (Fw.val_assign rfl) rfl ?_
        refine Fw.s (Fw.val_assign rfl) rfl ?_
        refine Fw.nil ?_
        refine hK10 _ _ (Fw.FC.sub (f' := [(8, _), (7, _), (5, _)]) (.cons rfl (.cons rfl (.cons rfl .nil))) ?_)
        refine Fw.seq fun _ hK11 => ?_
        refine Fw.region ?_
        refine Fw.s (Fw.val_build (ps := []) rfl (bu32_)) rfl ?_
        refine Fw.alloc ze32 rfl ?_
        intro w4 gXu egXu HXu hb
        have n_gXs_gXu : gXs < gXu := by have := HXs.lt; omega
        have lgXu : w.heap.size ≤ gXu := by have := HB.size; omega
        replace HXs := HXs.low hb
        replace HB := HB.trans (hb.mono HB.size)
        clear hb
        clear egXu
        refine Fw.storeW sz32 rfl rfl HXu rfl rfl (by exact Fw.oneCells rfl) ?_
        intro w5 N_ hc
        replace HXs := HXs.chg hc (by omega)
        replace HB := HB.trans (hc.below (B := w.heap.size) (fun k e => by omega) HB.size)
        clear hc
        clear HXu
        have HXu := N_
        clear N_
        refine Fw.s (Fw.val_assign rfl) rfl ?_
        refine Fw.nil ?_
        refine hK11 _ _ ?_
        refine Fw.seq fun _ hK12 => ?_
        refine Fw.seq fun _ hK13 => ?_
        refine Fw.region ?_
        refine Fw.s (Fw.val_move rfl) rfl ?_
        refine Fw.nil ?_
        refine hK13 _ _ ?_
        refine Fw.condF rfl ?_
        refine Fw.skip ?_
        refine hK12 _ _ ?_
        refine Fw.seq fun _ hK14 => ?_
        refine Fw.seq fun _ hK15 => ?_
        refine Fw.region ?_
        refine Fw.s (Fw.val_move rfl) rfl ?_
        refine Fw.s (Fw.val_not rfl) rfl ?_
        refine Fw.nil ?_
        refine hK15 _ _ ?_
        refine Fw.condT rfl ?_
        refine Fw.seq fun _ hK16 => ?_
        refine Fw.region ?_
        refine Fw.s (Fw.val_assign rfl) rfl ?_
        refine Fw.nil ?_
        refine hK16 _ _ (Fw.FC.sub (f' := [(6, _)]) (.cons rfl .nil) ?_)
        refine Fw.ret ?_
        refine Fw.X_ret ?_
        refine Fw.ret_ [.tmp 6] [_] Try.results7 (.tmp rfl .nil) ?_
        exact ⟨rfl, HB⟩

end Go.Proofs.Ytmohhociomghhaa
