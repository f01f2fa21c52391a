/- Layer 27: the law's own functions: do, play. -/
import Derived.Test.YtmohhociomghhaaUsM
namespace Go.Proofs.Ytmohhociomghhaa
set_option linter.unusedSimpArgs false
set_option linter.unusedVariables false
open Go.RowKit

theorem Fw.RdT.off {w w' : World} {ty g : Nat} {A : Option Addr} {xs : List Value} (h : Fw.RdT w ty A xs) (hc : Chg (· = g) w w') (ha : ∀ ad, A = some ad → ¬ ad.block = g) : Fw.RdT w' ty A xs := h.chg hc ha
theorem Us.doL_0 {a : Us.Act} {l : List Us.U} (h : a.k.tmod 6 = 0) : Us.doL a l = Us.repL l a.s a.t a.e := by unfold Us.doL; rw [if_pos h]
theorem Us.doL_1 {a : Us.Act} {l : List Us.U} (h : a.k.tmod 6 = 1) : Us.doL a l = Us.bindL l a.u a.i a.e a.n := by unfold Us.doL; rw [if_neg (by omega), if_pos h]
theorem Us.doL_2 {a : Us.Act} {l : List Us.U} (h : a.k.tmod 6 = 2) : Us.doL a l = Us.standL l a.u a.e := by unfold Us.doL; rw [if_neg (by omega), if_neg (by omega), if_pos h]
theorem Us.doL_3 {a : Us.Act} {l : List Us.U} (h : a.k.tmod 6 = 3) : Us.doL a l = Us.moveL l a.u a.n a.e := by unfold Us.doL; rw [if_neg (by omega), if_neg (by omega), if_neg (by omega), if_pos h]
theorem Us.doL_4 {a : Us.Act} {l : List Us.U} (h : a.k.tmod 6 = 4) : Us.doL a l = Us.quietL l a.t a.z a.e := by unfold Us.doL; rw [if_neg (by omega), if_neg (by omega), if_neg (by omega), if_neg (by omega), if_pos h]
theorem Us.doL_5 {a : Us.Act} {l : List Us.U} (h0 : ¬ a.k.tmod 6 = 0) (h1 : ¬ a.k.tmod 6 = 1) (h2 : ¬ a.k.tmod 6 = 2) (h3 : ¬ a.k.tmod 6 = 3) (h4 : ¬ a.k.tmod 6 = 4) : Us.doL a l = Us.turnL l a.i a.j := by unfold Us.doL; rw [if_neg h0, if_neg h1, if_neg h2, if_neg h3, if_neg h4]

set_option maxRecDepth 100000 in
set_option maxHeartbeats 1000000 in
theorem do_any (w : World) (B p g c : Nat) (l : List Us.U) (A : Option Addr) (c0 : Nat) (m : List Us.U) (a : Us.Act) (h : RegAt w B p g c l) (hm : Fw.RdT w 40 A (m.flatMap Us.U.cells)) (hwf : Us.Wf m) (hl : l.length ≤ 256) (hlm : m.length ≤ 256) : Calls Try.prog 16 #[.pointer (some ⟨p, 0, none⟩), .slice A m.length c0, .agg (Us.Act.cells a).toArray] w fun e_ w' => ∃ A' c' b, e_ = .returned (.tuple #[.slice A' (Us.doL a m).length c', .bool b]) ∧ (m = l → b = true) ∧ Fw.RdT w' 40 A' ((Us.doL a m).flatMap Us.U.cells) ∧ RegAt w' B p g c (Us.doL a l) ∧ Chg (· = g) w w' := by
  have HR := h
  have HM := hm
  have hlt := h.lt
  refine Fw.calls Try.func16 rfl Try.ntmps16 rfl ?_
  have HC := Chg.refl (· = g) w
  refine Fw.seq fun _ hK1 => ?_
  refine Fw.region ?_
  refine Fw.box rfl rfl ?_
  intro w1 gXa egXa HXa hb
  have lgXa : w.heap.size ≤ gXa := by have := HC.size; omega
  replace HR := HR.low hb
  replace HM := HM.low hb
  replace HC := HC.trans (Chg.of_below hb (· = g)) (fun _ _ h => h)
  clear hb
  clear egXa
  refine Fw.s (Fw.val_assign rfl) rfl ?_
  refine Fw.s (Fw.val_assign rfl) rfl ?_
  refine Fw.nil ?_
  refine hK1 _ _ ?_
  refine Fw.seq fun _ hK2 => ?_
  refine Fw.seq fun _ hK3 => ?_
  refine Fw.region ?_
  refine Fw.s (Fw.val_fieldAddr fl47_0 rfl rfl) rfl ?_
  refine Fw.ld sc5 rfl (HXa.cell 0) rfl ?_
  refine Fw.s (Fw.val_bin rfl rfl (Fw.b_rem (by decide) rfl)) rfl ?_
  refine Fw.nil ?_
  refine hK3 _ _ ?_
  refine Fw.block ?_
  refine Fw.seq fun _ hK4 => ?_
  refine Fw.region ?_
  refine Fw.s2 (Fw.val_bin rfl rfl Fw.b_eql) rfl ?_ ?_
  · rintro z0
    refine Fw.s (Fw.val_assign rfl) rfl ?_
    refine Fw.nil ?_
    refine hK4 _ _ ?_
    refine Fw.condT rfl ?_
    refine Fw.seq fun _ hK6 => ?_
    refine Fw.region ?_
    refine Fw.s (Fw.val_move rfl) rfl ?_
    refine Fw.s (Fw.val_fieldAddr fl47_1 rfl rfl) rfl ?_
    refine Fw.ldA ag45 rfl (Fw.rdPart (Fw.rdBlk HXa) 1 5) rfl rfl ?_
    refine Fw.s (Fw.val_fieldAddr fl47_7 rfl rfl) rfl ?_
    refine Fw.ld sc2 rfl (HXa.cell 11) rfl ?_
    refine Fw.s (Fw.val_fieldAddr fl47_6 rfl rfl) rfl ?_
    refine Fw.ld sc2 rfl (HXa.cell 10) rfl ?_
    refine Fw.call cf32 rfl rfl (rword_any _ A m c0 a.s a.t a.e HM hwf hlm) ?_
    rintro e_ w2 ⟨A1, cc1, rfl, HM2, hb⟩
    refine ⟨_, rfl, ?_⟩
    replace HR := HR.low hb
    replace HM := HM.low hb
    replace HXa := HXa.low hb
    replace HC := HC.trans (Chg.of_below hb (· = g)) (fun _ _ h => h)
    clear hb
    clear HM
    have HM := HM2
    clear HM2
    refine Fw.s (Fw.val_move rfl) rfl ?_
    refine Fw.s (Fw.val_extract rfl rfl) rfl ?_
    refine Fw.s (Fw.val_extract rfl rfl) rfl ?_
    refine Fw.s (Fw.val_extract rfl rfl) rfl ?_
    refine Fw.s (Fw.val_assign rfl) rfl ?_
    refine Fw.s (Fw.val_assign rfl) rfl ?_
    refine Fw.s (Fw.val_assign rfl) rfl ?_
    refine Fw.nil ?_
    refine hK6 _ _ (Fw.FC.sub (f' := [(10, _), (9, _), (8, _), (5, _), (0, _)]) (.cons rfl (.cons rfl (.cons rfl (.cons rfl (.cons rfl .nil))))) ?_)
    refine Fw.seq fun _ hK7 => ?_
    refine Fw.region ?_
    refine Fw.s (Fw.val_move rfl) rfl ?_
    refine Fw.s (Fw.val_fieldAddr fl47_1 rfl rfl) rfl ?_
    refine Fw.ldA ag45 rfl (Fw.rdPart (Fw.rdBlk HXa) 1 5) rfl rfl ?_
    refine Fw.s (Fw.val_fieldAddr fl47_7 rfl rfl) rfl ?_
    refine Fw.ld sc2 rfl (HXa.cell 11) rfl ?_
    refine Fw.s (Fw.val_fieldAddr fl47_6 rfl rfl) rfl ?_
    refine Fw.ld sc2 rfl (HXa.cell 10) rfl ?_
    refine Fw.call cf18 rfl rfl (report_any _ B p g c l a.s a.t a.e HR) ?_
    rintro e_ w3 ⟨rfl, HR2, hc⟩
    refine ⟨_, rfl, ?_⟩
    have hma := HR.apart HM
    replace HM := HM.off hc hma
    replace HXa := HXa.chg hc (by omega)
    replace HC := HC.trans hc (fun k hk_ e => by first | exact e | (left; exact e) | (right; exact e) | (exfalso; omega))
    clear hc
    clear HR
    have HR := HR2
    clear HR2
    refine Fw.s (Fw.val_move rfl) rfl ?_
    refine Fw.s (Fw.val_extract rfl rfl) rfl ?_
    refine Fw.s (Fw.val_extract rfl rfl) rfl ?_
    refine Fw.s (Fw.val_assign rfl) rfl ?_
    refine Fw.s (Fw.val_assign rfl) rfl ?_
    refine Fw.nil ?_
    refine hK7 _ _ (Fw.FC.sub (f' := [(12, _), (11, _), (10, _), (9, _), (8, _)]) (.cons rfl (.cons rfl (.cons rfl (.cons rfl (.cons rfl .nil))))) ?_)
    refine Fw.seq fun _ hK8 => ?_
    refine Fw.region ?_
    refine Fw.s (Fw.val_move rfl) rfl ?_
    refine Fw.s (Fw.val_move rfl) rfl ?_
    refine Fw.s (Fw.val_move rfl) rfl ?_
    refine Fw.s2 (Fw.val_bin rfl rfl (Fw.b_eqlB Try.underlying4)) rfl ?_ ?_
    · rintro hb2
      refine Fw.s (Fw.val_move rfl) rfl ?_
      refine Fw.gT (d := 53) rfl rfl ?_
      refine Fw.s (Fw.val_move rfl) rfl ?_
      refine Fw.gT (d := 53) rfl rfl ?_
      refine Fw.s (Fw.val_move rfl) rfl ?_
      refine Fw.gT (d := 53) rfl rfl ?_
      refine Fw.s (Fw.val_bin rfl rfl Fw.b_eql) rfl ?_
      refine Fw.s (Fw.val_pickT rfl rfl) rfl ?_
      refine Fw.s (Fw.val_assign rfl) rfl ?_
      refine Fw.s (Fw.val_assign rfl) rfl ?_
      refine Fw.nil ?_
      refine hK8 _ _ (Fw.FC.sub (f' := [(7, _), (6, _)]) (.cons rfl (.cons rfl .nil)) ?_)
      refine Fw.ret ?_
      refine Fw.X_blockR ?_
      refine Fw.X_ret ?_
      refine Fw.ret_ [.tmp 6, .tmp 7] [_, _] Try.results16 (.tmp rfl (.tmp rfl .nil)) ?_
      rw [Us.doL_0 z0, Us.doL_0 z0]
      exact ⟨_, _, _, rfl, fun e => by subst e; exact decide_eq_true rfl, HM, HR, HC⟩
    · rintro hb2
      refine Fw.s (Fw.val_move rfl) rfl ?_
      refine Fw.gF (d := 53) rfl rfl rfl rfl ?_
      refine Fw.gF (d := 53) rfl rfl rfl rfl ?_
      refine Fw.gF (d := 53) rfl rfl rfl rfl ?_
      refine Fw.s (Fw.val_pickF rfl rfl) rfl ?_
      refine Fw.s (Fw.val_assign rfl) rfl ?_
      refine Fw.s (Fw.val_assign rfl) rfl ?_
      refine Fw.nil ?_
      refine hK8 _ _ (Fw.FC.sub (f' := [(7, _), (6, _)]) (.cons rfl (.cons rfl .nil)) ?_)
      refine Fw.ret ?_
      refine Fw.X_blockR ?_
      refine Fw.X_ret ?_
      refine Fw.ret_ [.tmp 6, .tmp 7] [_, _] Try.results16 (.tmp rfl (.tmp rfl .nil)) ?_
      rw [Us.doL_0 z0, Us.doL_0 z0]
      exact ⟨_, _, _, rfl, fun e => by subst e; exact absurd rfl hb2, HM, HR, HC⟩
  · rintro z0
    refine Fw.s (Fw.val_assign rfl) rfl ?_
    refine Fw.nil ?_
    refine hK4 _ _ ?_
    refine Fw.condF rfl ?_
    refine Fw.seq fun _ hK10 => ?_
    refine Fw.region ?_
    refine Fw.s2 (Fw.val_bin rfl rfl Fw.b_eql) rfl ?_ ?_
    · rintro z1
      refine Fw.s (Fw.val_assign rfl) rfl ?_
      refine Fw.nil ?_
      refine hK10 _ _ (Fw.FC.sub (f' := [(58, _), (23, _), (5, _), (0, _), (1, _)]) (.cons rfl (.cons rfl (.cons rfl (.cons rfl (.cons rfl .nil))))) ?_)
      refine Fw.condT rfl ?_
      refine Fw.seq fun _ hK12 => ?_
      refine Fw.region ?_
      refine Fw.s (Fw.val_move rfl) rfl ?_
      refine Fw.s (Fw.val_fieldAddr fl47_2 rfl rfl) rfl ?_
      refine Fw.ld sc3 rfl (HXa.cell 6) rfl ?_
      refine Fw.s (Fw.val_fieldAddr fl47_4 rfl rfl) rfl ?_
      refine Fw.ld sc2 rfl (HXa.cell 8) rfl ?_
      refine Fw.s (Fw.val_fieldAddr fl47_6 rfl rfl) rfl ?_
      refine Fw.ld sc2 rfl (HXa.cell 10) rfl ?_
      refine Fw.s (Fw.val_fieldAddr fl47_3 rfl rfl) rfl ?_
      refine Fw.ld sc3 rfl (HXa.cell 7) rfl ?_
      refine Fw.call cf33 rfl rfl (rbind_any _ A m c0 a.u a.i a.e a.n HM hwf hlm) ?_
      rintro e_ w4 ⟨A1, cc1, rfl, HM2, hb⟩
      refine ⟨_, rfl, ?_⟩
      replace HR := HR.low hb
      replace HM := HM.low hb
      replace HXa := HXa.low hb
      replace HC := HC.trans (Chg.of_below hb (· = g)) (fun _ _ h => h)
      clear hb
      clear HM
      have HM := HM2
      clear HM2
      refine Fw.s (Fw.val_move rfl) rfl ?_
      refine Fw.s (Fw.val_extract rfl rfl) rfl ?_
      refine Fw.s (Fw.val_extract rfl rfl) rfl ?_
      refine Fw.s (Fw.val_assign rfl) rfl ?_
      refine Fw.s (Fw.val_assign rfl) rfl ?_
      refine Fw.nil ?_
      refine hK12 _ _ (Fw.FC.sub (f' := [(14, _), (13, _), (5, _), (0, _)]) (.cons rfl (.cons rfl (.cons rfl (.cons rfl .nil)))) ?_)
      refine Fw.seq fun _ hK13 => ?_
      refine Fw.region ?_
      refine Fw.s (Fw.val_move rfl) rfl ?_
      refine Fw.s (Fw.val_move rfl) rfl ?_
      refine Fw.s (Fw.val_fieldAddr fl47_2 rfl rfl) rfl ?_
      refine Fw.ld sc3 rfl (HXa.cell 6) rfl ?_
      refine Fw.s (Fw.val_fieldAddr fl47_4 rfl rfl) rfl ?_
      refine Fw.ld sc2 rfl (HXa.cell 8) rfl ?_
      refine Fw.s (Fw.val_fieldAddr fl47_6 rfl rfl) rfl ?_
      refine Fw.ld sc2 rfl (HXa.cell 10) rfl ?_
      refine Fw.s (Fw.val_fieldAddr fl47_3 rfl rfl) rfl ?_
      refine Fw.ld sc3 rfl (HXa.cell 7) rfl ?_
      refine Fw.call cf22 rfl rfl (assign_any _ B p g c l a.u a.i a.e a.n HR) ?_
      rintro e_ w5 ⟨rfl, HR2, hc⟩
      refine ⟨_, rfl, ?_⟩
      have hma := HR.apart HM
      replace HM := HM.off hc hma
      replace HXa := HXa.chg hc (by omega)
      replace HC := HC.trans hc (fun k hk_ e => by first | exact e | (left; exact e) | (right; exact e) | (exfalso; omega))
      clear hc
      clear HR
      have HR := HR2
      clear HR2
      refine Fw.s (Fw.val_move rfl) rfl ?_
      refine Fw.s (Fw.val_bin rfl rfl Fw.b_eql) rfl ?_
      refine Fw.s (Fw.val_assign rfl) rfl ?_
      refine Fw.s (Fw.val_assign rfl) rfl ?_
      refine Fw.nil ?_
      refine hK13 _ _ (Fw.FC.sub (f' := [(7, _), (6, _)]) (.cons rfl (.cons rfl .nil)) ?_)
      refine Fw.ret ?_
      refine Fw.X_blockR ?_
      refine Fw.X_ret ?_
      refine Fw.ret_ [.tmp 6, .tmp 7] [_, _] Try.results16 (.tmp rfl (.tmp rfl .nil)) ?_
      rw [Us.doL_1 z1, Us.doL_1 z1]
      exact ⟨_, _, _, rfl, fun e => by subst e; exact decide_eq_true rfl, HM, HR, HC⟩
    · rintro z1
      refine Fw.s (Fw.val_assign rfl) rfl ?_
      refine Fw.nil ?_
      refine hK10 _ _ (Fw.FC.sub (f' := [(58, _), (23, _), (5, _), (0, _), (1, _)]) (.cons rfl (.cons rfl (.cons rfl (.cons rfl (.cons rfl .nil))))) ?_)
      refine Fw.condF rfl ?_
      refine Fw.seq fun _ hK14 => ?_
      refine Fw.region ?_
      refine Fw.s2 (Fw.val_bin rfl rfl Fw.b_eql) rfl ?_ ?_
      · rintro z2
        refine Fw.s (Fw.val_assign rfl) rfl ?_
        refine Fw.nil ?_
        refine hK14 _ _ ?_
        refine Fw.condT rfl ?_
        refine Fw.seq fun _ hK16 => ?_
        refine Fw.region ?_
        refine Fw.s (Fw.val_move rfl) rfl ?_
        refine Fw.s (Fw.val_fieldAddr fl47_2 rfl rfl) rfl ?_
        refine Fw.ld sc3 rfl (HXa.cell 6) rfl ?_
        refine Fw.s (Fw.val_fieldAddr fl47_6 rfl rfl) rfl ?_
        refine Fw.ld sc2 rfl (HXa.cell 10) rfl ?_
        refine Fw.call cf34 rfl rfl (rstand_any _ A m c0 a.u a.e HM hwf hlm) ?_
        rintro e_ w6 ⟨A1, cc1, rfl, HM2, hb⟩
        refine ⟨_, rfl, ?_⟩
        replace HR := HR.low hb
        replace HM := HM.low hb
        replace HXa := HXa.low hb
        replace HC := HC.trans (Chg.of_below hb (· = g)) (fun _ _ h => h)
        clear hb
        clear HM
        have HM := HM2
        clear HM2
        refine Fw.s (Fw.val_move rfl) rfl ?_
        refine Fw.s (Fw.val_extract rfl rfl) rfl ?_
        refine Fw.s (Fw.val_extract rfl rfl) rfl ?_
        refine Fw.s (Fw.val_assign rfl) rfl ?_
        refine Fw.s (Fw.val_assign rfl) rfl ?_
        refine Fw.nil ?_
        refine hK16 _ _ (Fw.FC.sub (f' := [(16, _), (15, _), (5, _), (0, _)]) (.cons rfl (.cons rfl (.cons rfl (.cons rfl .nil)))) ?_)
        refine Fw.seq fun _ hK17 => ?_
        refine Fw.region ?_
        refine Fw.s (Fw.val_move rfl) rfl ?_
        refine Fw.s (Fw.val_move rfl) rfl ?_
        refine Fw.s (Fw.val_fieldAddr fl47_2 rfl rfl) rfl ?_
        refine Fw.ld sc3 rfl (HXa.cell 6) rfl ?_
        refine Fw.s (Fw.val_fieldAddr fl47_6 rfl rfl) rfl ?_
        refine Fw.ld sc2 rfl (HXa.cell 10) rfl ?_
        refine Fw.call cf35 rfl rfl (standDown_any _ B p g c l a.u a.e HR) ?_
        rintro e_ w7 ⟨rfl, HR2, hc⟩
        refine ⟨_, rfl, ?_⟩
        have hma := HR.apart HM
        replace HM := HM.off hc hma
        replace HXa := HXa.chg hc (by omega)
        replace HC := HC.trans hc (fun k hk_ e => by first | exact e | (left; exact e) | (right; exact e) | (exfalso; omega))
        clear hc
        clear HR
        have HR := HR2
        clear HR2
        refine Fw.s (Fw.val_move rfl) rfl ?_
        refine Fw.s (Fw.val_bin rfl rfl Fw.b_eql) rfl ?_
        refine Fw.s (Fw.val_assign rfl) rfl ?_
        refine Fw.s (Fw.val_assign rfl) rfl ?_
        refine Fw.nil ?_
        refine hK17 _ _ (Fw.FC.sub (f' := [(7, _), (6, _)]) (.cons rfl (.cons rfl .nil)) ?_)
        refine Fw.ret ?_
        refine Fw.X_blockR ?_
        refine Fw.X_ret ?_
        refine Fw.ret_ [.tmp 6, .tmp 7] [_, _] Try.results16 (.tmp rfl (.tmp rfl .nil)) ?_
        rw [Us.doL_2 z2, Us.doL_2 z2]
        exact ⟨_, _, _, rfl, fun e => by subst e; exact decide_eq_true rfl, HM, HR, HC⟩
      · rintro z2
        refine Fw.s (Fw.val_assign rfl) rfl ?_
        refine Fw.nil ?_
        refine hK14 _ _ ?_
        refine Fw.condF rfl ?_
        refine Fw.seq fun _ hK18 => ?_
        refine Fw.region ?_
        refine Fw.s2 (Fw.val_bin rfl rfl Fw.b_eql) rfl ?_ ?_
        · rintro z3
          refine Fw.s (Fw.val_assign rfl) rfl ?_
          refine Fw.nil ?_
          refine hK18 _ _ ?_
          refine Fw.condT rfl ?_
          refine Fw.seq fun _ hK20 => ?_
          refine Fw.region ?_
          refine Fw.s (Fw.val_move rfl) rfl ?_
          refine Fw.s (Fw.val_fieldAddr fl47_2 rfl rfl) rfl ?_
          refine Fw.ld sc3 rfl (HXa.cell 6) rfl ?_
          refine Fw.s (Fw.val_fieldAddr fl47_3 rfl rfl) rfl ?_
          refine Fw.ld sc3 rfl (HXa.cell 7) rfl ?_
          refine Fw.s (Fw.val_fieldAddr fl47_6 rfl rfl) rfl ?_
          refine Fw.ld sc2 rfl (HXa.cell 10) rfl ?_
          refine Fw.call cf36 rfl rfl (rmove_any _ A m c0 a.u a.n a.e HM hwf hlm) ?_
          rintro e_ w8 ⟨A1, cc1, rfl, HM2, hb⟩
          refine ⟨_, rfl, ?_⟩
          replace HR := HR.low hb
          replace HM := HM.low hb
          replace HXa := HXa.low hb
          replace HC := HC.trans (Chg.of_below hb (· = g)) (fun _ _ h => h)
          clear hb
          clear HM
          have HM := HM2
          clear HM2
          refine Fw.s (Fw.val_move rfl) rfl ?_
          refine Fw.s (Fw.val_extract rfl rfl) rfl ?_
          refine Fw.s (Fw.val_extract rfl rfl) rfl ?_
          refine Fw.s (Fw.val_assign rfl) rfl ?_
          refine Fw.s (Fw.val_assign rfl) rfl ?_
          refine Fw.nil ?_
          refine hK20 _ _ (Fw.FC.sub (f' := [(18, _), (17, _), (5, _), (0, _)]) (.cons rfl (.cons rfl (.cons rfl (.cons rfl .nil)))) ?_)
          refine Fw.seq fun _ hK21 => ?_
          refine Fw.region ?_
          refine Fw.s (Fw.val_move rfl) rfl ?_
          refine Fw.s (Fw.val_move rfl) rfl ?_
          refine Fw.s (Fw.val_fieldAddr fl47_2 rfl rfl) rfl ?_
          refine Fw.ld sc3 rfl (HXa.cell 6) rfl ?_
          refine Fw.s (Fw.val_fieldAddr fl47_3 rfl rfl) rfl ?_
          refine Fw.ld sc3 rfl (HXa.cell 7) rfl ?_
          refine Fw.s (Fw.val_fieldAddr fl47_6 rfl rfl) rfl ?_
          refine Fw.ld sc2 rfl (HXa.cell 10) rfl ?_
          refine Fw.call cf37 rfl rfl (move_any _ B p g c l a.u a.n a.e HR) ?_
          rintro e_ w9 ⟨rfl, HR2, hc⟩
          refine ⟨_, rfl, ?_⟩
          have hma := HR.apart HM
          replace HM := HM.off hc hma
          replace HXa := HXa.chg hc (by omega)
          replace HC := HC.trans hc (fun k hk_ e => by first | exact e | (left; exact e) | (right; exact e) | (exfalso; omega))
          clear hc
          clear HR
          have HR := HR2
          clear HR2
          refine Fw.s (Fw.val_move rfl) rfl ?_
          refine Fw.s (Fw.val_bin rfl rfl Fw.b_eql) rfl ?_
          refine Fw.s (Fw.val_assign rfl) rfl ?_
          refine Fw.s (Fw.val_assign rfl) rfl ?_
          refine Fw.nil ?_
          refine hK21 _ _ (Fw.FC.sub (f' := [(7, _), (6, _)]) (.cons rfl (.cons rfl .nil)) ?_)
          refine Fw.ret ?_
          refine Fw.X_blockR ?_
          refine Fw.X_ret ?_
          refine Fw.ret_ [.tmp 6, .tmp 7] [_, _] Try.results16 (.tmp rfl (.tmp rfl .nil)) ?_
          rw [Us.doL_3 z3, Us.doL_3 z3]
          exact ⟨_, _, _, rfl, fun e => by subst e; exact decide_eq_true rfl, HM, HR, HC⟩
        · rintro z3
          refine Fw.s (Fw.val_assign rfl) rfl ?_
          refine Fw.nil ?_
          refine hK18 _ _ ?_
          refine Fw.condF rfl ?_
          refine Fw.seq fun _ hK22 => ?_
          refine Fw.region ?_
          refine Fw.s2 (Fw.val_bin rfl rfl Fw.b_eql) rfl ?_ ?_
          · rintro z4
            refine Fw.s (Fw.val_assign rfl) rfl ?_
            refine Fw.nil ?_
            refine hK22 _ _ (Fw.FC.sub (f' := [(130, _), (5, _), (0, _), (1, _)]) (.cons rfl (.cons rfl (.cons rfl (.cons rfl .nil)))) ?_)
            refine Fw.condT rfl ?_
            refine Fw.seq fun _ hK24 => ?_
            have hs2 := HC.size
            refine Fw.region ?_
            refine Fw.s (Fw.val_move rfl) rfl ?_
            refine Fw.s (Fw.val_fieldAddr fl47_7 rfl rfl) rfl ?_
            refine Fw.ld sc2 rfl (HXa.cell 11) rfl ?_
            refine Fw.s (Fw.val_fieldAddr fl47_8 rfl rfl) rfl ?_
            refine Fw.ld sc2 rfl (HXa.cell 12) rfl ?_
            refine Fw.s (Fw.val_fieldAddr fl47_6 rfl rfl) rfl ?_
            refine Fw.ld sc2 rfl (HXa.cell 10) rfl ?_
            refine Fw.call cf38 rfl rfl (rquiet_any w1 A m c0 a.t a.z a.e HM hwf hlm) ?_
            rintro e_ w10 ⟨A1, cc1, A2, cc2, rfl, HM2, HI2, hb⟩
            refine ⟨_, rfl, ?_⟩
            replace HR := HR.low hb
            replace HM := HM.low hb
            replace HXa := HXa.low hb
            replace HC := HC.trans (Chg.of_below hb (· = g)) (fun _ _ h => h)
            clear hb
            clear HM
            have HM := HM2
            clear HM2
            refine Fw.s (Fw.val_move rfl) rfl ?_
            refine Fw.s (Fw.val_extract rfl rfl) rfl ?_
            refine Fw.s (Fw.val_extract rfl rfl) rfl ?_
            refine Fw.s (Fw.val_assign rfl) rfl ?_
            refine Fw.s (Fw.val_assign rfl) rfl ?_
            refine Fw.nil ?_
            refine hK24 _ _ (Fw.FC.sub (f' := [(20, _), (19, _), (5, _), (0, _)]) (.cons rfl (.cons rfl (.cons rfl (.cons rfl .nil)))) ?_)
            refine Fw.seq fun _ hK25 => ?_
            refine Fw.region ?_
            refine Fw.s (Fw.val_move rfl) rfl ?_
            refine Fw.s (Fw.val_move rfl) rfl ?_
            refine Fw.s (Fw.val_fieldAddr fl47_7 rfl rfl) rfl ?_
            refine Fw.ld sc2 rfl (HXa.cell 11) rfl ?_
            refine Fw.s (Fw.val_fieldAddr fl47_8 rfl rfl) rfl ?_
            refine Fw.ld sc2 rfl (HXa.cell 12) rfl ?_
            refine Fw.s (Fw.val_fieldAddr fl47_6 rfl rfl) rfl ?_
            refine Fw.ld sc2 rfl (HXa.cell 10) rfl ?_
            refine Fw.call cf19 rfl rfl (silent_any w10 B p g c l a.t a.z a.e HR hl) ?_
            rintro e_ w11 ⟨A3, cc3, rfl, HI3, HR2, hc⟩
            refine ⟨_, rfl, ?_⟩
            have hma := HR.apart HM
            replace HM := HM.off hc hma
            replace HXa := HXa.chg hc (by omega)
            replace HI2 := own_to HI2 hc (fun g_ h_ e_ => by have := (HI2.lt g_ (by rw [ownBlock_slice]; exact h_)).1; omega)
            replace HC := HC.trans hc (fun k hk_ e => by first | exact e | (left; exact e) | (right; exact e) | (exfalso; omega))
            clear hc
            clear HR
            have HR := HR2
            clear HR2
            refine Fw.s (Fw.val_move rfl) rfl ?_
            refine Fw.call cf26 rfl rfl (rsame7_any _ A3 (Us.quietW l a.t a.z a.e) cc3 A2 (Us.quietW m a.t a.z a.e) cc2 (Rd.of_own HI3) (Rd.of_own HI2) (by have := Us.quietW_len l a.t a.z a.e; omega)) ?_
            rintro e_ w12 ⟨rfl, hb⟩
            refine ⟨_, rfl, ?_⟩
            replace HR := HR.low hb
            replace HM := HM.low hb
            replace HXa := HXa.low hb
            replace HI2 := own_below HI2 hb (Nat.le_refl _)
            replace HI3 := own_below HI3 hb (Nat.le_refl _)
            replace HC := HC.trans (Chg.of_below hb (· = g)) (fun _ _ h => h)
            clear hb
            refine Fw.s (Fw.val_assign rfl) rfl ?_
            refine Fw.s (Fw.val_assign rfl) rfl ?_
            refine Fw.nil ?_
            refine hK25 _ _ (Fw.FC.sub (f' := [(7, _), (6, _)]) (.cons rfl (.cons rfl .nil)) ?_)
            refine Fw.ret ?_
            refine Fw.X_blockR ?_
            refine Fw.X_ret ?_
            refine Fw.ret_ [.tmp 6, .tmp 7] [_, _] Try.results16 (.tmp rfl (.tmp rfl .nil)) ?_
            rw [Us.doL_4 z4, Us.doL_4 z4]
            exact ⟨_, _, _, rfl, fun e => by subst e; exact decide_eq_true rfl, HM, HR, HC⟩
          · rintro z4
            refine Fw.s (Fw.val_assign rfl) rfl ?_
            refine Fw.nil ?_
            refine hK22 _ _ (Fw.FC.sub (f' := [(130, _), (5, _), (0, _), (1, _)]) (.cons rfl (.cons rfl (.cons rfl (.cons rfl .nil)))) ?_)
            refine Fw.condF rfl ?_
            refine Fw.skip ?_
            refine Fw.X_blockN ?_
            refine hK2 _ _ ?_
            refine Fw.seq fun _ hK26 => ?_
            refine Fw.region ?_
            refine Fw.s (Fw.val_move rfl) rfl ?_
            refine Fw.s (Fw.val_fieldAddr fl47_4 rfl rfl) rfl ?_
            refine Fw.ld sc2 rfl (HXa.cell 8) rfl ?_
            refine Fw.s (Fw.val_fieldAddr fl47_5 rfl rfl) rfl ?_
            refine Fw.ld sc2 rfl (HXa.cell 9) rfl ?_
            refine Fw.call cf39 rfl rfl (merge_any _ B p g c l a.i a.j HR hl) ?_
            rintro e_ w13 ⟨rfl, HR2, hc⟩
            refine ⟨_, rfl, ?_⟩
            have hma := HR.apart HM
            replace HM := HM.off hc hma
            replace HXa := HXa.chg hc (by omega)
            replace HC := HC.trans hc (fun k hk_ e => by first | exact e | (left; exact e) | (right; exact e) | (exfalso; omega))
            clear hc
            clear HR
            have HR := HR2
            clear HR2
            refine Fw.nil ?_
            refine hK26 _ _ (Fw.FC.sub (f' := [(5, _), (1, _)]) (.cons rfl (.cons rfl .nil)) ?_)
            refine Fw.seq fun _ hK27 => ?_
            refine Fw.region ?_
            refine Fw.s (Fw.val_move rfl) rfl ?_
            refine Fw.s (Fw.val_fieldAddr fl47_4 rfl rfl) rfl ?_
            refine Fw.ld sc2 rfl (HXa.cell 8) rfl ?_
            refine Fw.s (Fw.val_fieldAddr fl47_5 rfl rfl) rfl ?_
            refine Fw.ld sc2 rfl (HXa.cell 9) rfl ?_
            refine Fw.call cf40 rfl rfl (rturn_any _ A m c0 a.i a.j HM hlm) ?_
            rintro e_ w14 ⟨A1, cc1, rfl, HM2, hb⟩
            refine ⟨_, rfl, ?_⟩
            replace HR := HR.low hb
            replace HM := HM.low hb
            replace HXa := HXa.low hb
            replace HC := HC.trans (Chg.of_below hb (· = g)) (fun _ _ h => h)
            clear hb
            clear HM
            have HM := HM2
            clear HM2
            refine Fw.s (Fw.val_assign rfl) rfl ?_
            refine Fw.s (Fw.val_assign rfl) rfl ?_
            refine Fw.nil ?_
            refine hK27 _ _ (Fw.FC.sub (f' := [(7, _), (6, _)]) (.cons rfl (.cons rfl .nil)) ?_)
            refine Fw.ret ?_
            refine Fw.ret_ [.tmp 6, .tmp 7] [_, _] Try.results16 (.tmp rfl (.tmp rfl .nil)) ?_
            rw [Us.doL_5 z0 z1 z2 z3 z4, Us.doL_5 z0 z1 z2 z3 z4]
            exact ⟨_, _, _, rfl, fun _ => rfl, HM, HR, HC⟩

end Go.Proofs.Ytmohhociomghhaa
