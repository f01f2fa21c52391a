/- Layer 27: the laws of the model, and of New. -/
import Derived.Test.YtmohhociomghhaaUsY
import Derived.Test.YtmohhociomghhaaUsI
namespace Go.Proofs.Ytmohhociomghhaa
set_option linter.unusedSimpArgs false
set_option linter.unusedVariables false
open Go.RowKit

set_option maxRecDepth 100000 in
set_option maxHeartbeats 1000000 in
theorem matches_any (w : World) (A : Option Addr) (cf : List Us.Cfg) (c0 : Nat) (A2 : Option Addr) (acts : List Us.Act) (c2 : Nat) (h : Rd w A (cf.flatMap Us.Cfg.cells)) (h2 : Rd w A2 (acts.flatMap Us.Act.cells)) : Calls Try.prog 8 #[.slice A cf.length c0, .slice A2 acts.length c2] w fun e_ w' => e_ = .returned (.bool true) ∧ Below w.heap.size w w' := by
  by_cases hE : Us.newE cf = 0
  · skip
    refine Fw.calls Try.func8 rfl Try.ntmps8 rfl ?_
    have HB := Below.refl (w.heap.size) w
    refine Fw.seq fun _ hK1 => ?_
    refine Fw.region ?_
    refine Fw.s (Fw.val_assign rfl) rfl ?_
    refine Fw.nil ?_
    refine hK1 _ _ ?_
    refine Fw.seq fun _ hK2 => ?_
    refine Fw.seq fun _ hK3 => ?_
    refine Fw.region ?_
    refine Fw.call cf9 rfl rfl (wakes_any _) ?_
    rintro e_ w1 ⟨rfl, hb⟩
    refine ⟨_, rfl, ?_⟩
    replace HB := HB.trans (hb.mono HB.size)
    clear hb
    refine Fw.bT (by rfl) ?_
    refine Fw.s (Fw.val_not rfl) rfl ?_
    refine Fw.nil ?_
    refine hK3 _ _ ?_
    refine Fw.condF rfl ?_
    refine Fw.skip ?_
    refine hK2 _ _ ?_
    refine Fw.seq fun _ hK4 => ?_
    refine Fw.seq fun _ hK5 => ?_
    refine Fw.region ?_
    refine Fw.s (Fw.val_move rfl) rfl ?_
    refine Fw.s (Fw.val_len Try.underlying22 rfl) rfl ?_
    refine Fw.s2 (Fw.val_bin rfl rfl Fw.b_gtr) rfl ?_ ?_
    · rintro hn1
      refine Fw.s (Fw.val_move rfl) rfl ?_
      refine Fw.gF (d := 18) rfl rfl rfl rfl ?_
      refine Fw.gF (d := 18) rfl rfl rfl rfl ?_
      refine Fw.gF (d := 18) rfl rfl rfl rfl ?_
      refine Fw.s (Fw.val_pickT rfl rfl) rfl ?_
      refine Fw.nil ?_
      refine hK5 _ _ (Fw.FC.sub (f' := [(22, _), (0, _), (1, _)]) (.cons rfl (.cons rfl (.cons rfl .nil))) ?_)
      refine Fw.condT rfl ?_
      refine Fw.seq fun _ hK7 => ?_
      refine Fw.region ?_
      refine Fw.s (Fw.val_assign rfl) rfl ?_
      refine Fw.nil ?_
      refine hK7 _ _ ?_
      refine Fw.ret ?_
      refine Fw.X_ret ?_
      refine Fw.ret_ [.tmp 4] [_] Try.results8 (.tmp rfl .nil) ?_
      exact ⟨rfl, HB⟩
    · rintro hn1
      refine Fw.s (Fw.val_move rfl) rfl ?_
      refine Fw.gT (d := 18) rfl rfl ?_
      refine Fw.s (Fw.val_move rfl) rfl ?_
      refine Fw.gT (d := 18) rfl rfl ?_
      refine Fw.s (Fw.val_len Try.underlying43 rfl) rfl ?_
      refine Fw.gT (d := 18) rfl rfl ?_
      refine Fw.s2 (Fw.val_bin rfl rfl Fw.b_gtr) rfl ?_ ?_
      · rintro hn2
        refine Fw.s (Fw.val_pickF rfl rfl) rfl ?_
        refine Fw.nil ?_
        refine hK5 _ _ (Fw.FC.sub (f' := [(22, _), (0, _), (1, _)]) (.cons rfl (.cons rfl (.cons rfl .nil))) ?_)
        refine Fw.condT rfl ?_
        refine Fw.seq fun _ hK9 => ?_
        refine Fw.region ?_
        refine Fw.s (Fw.val_assign rfl) rfl ?_
        refine Fw.nil ?_
        refine hK9 _ _ ?_
        refine Fw.ret ?_
        refine Fw.X_ret ?_
        refine Fw.ret_ [.tmp 4] [_] Try.results8 (.tmp rfl .nil) ?_
        exact ⟨rfl, HB⟩
      · rintro hn2
        refine Fw.s (Fw.val_pickF rfl rfl) rfl ?_
        refine Fw.nil ?_
        refine hK5 _ _ (Fw.FC.sub (f' := [(22, _), (0, _), (1, _)]) (.cons rfl (.cons rfl (.cons rfl .nil))) ?_)
        refine Fw.condF rfl ?_
        refine Fw.skip ?_
        refine hK4 _ _ ?_
        refine Fw.seq fun _ hK10 => ?_
        refine Fw.region ?_
        refine Fw.s (Fw.val_move rfl) rfl ?_
        refine Fw.call cf10 rfl rfl (new_any _ A cf c0 (h.low HB)) ?_
        rintro e_ w2 ⟨x, rfl, -, hx2, hb⟩
        refine ⟨_, rfl, ?_⟩
        have hs0 := HB.size
        replace HB := HB.trans (hb.mono HB.size)
        clear hb
        obtain ⟨p, g, rfl, HR⟩ := hx2 hE
        replace HR := HR.mono hs0
        have lp := HR.1
        have lg := HR.2.1
        rw [hE]
        refine Fw.s (Fw.val_move rfl) rfl ?_
        refine Fw.s (Fw.val_extract rfl rfl) rfl ?_
        refine Fw.s (Fw.val_extract rfl rfl) rfl ?_
        refine Fw.s (Fw.val_assign rfl) rfl ?_
        refine Fw.s (Fw.val_assign rfl) rfl ?_
        refine Fw.nil ?_
        refine hK10 _ _ ?_
        refine Fw.seq fun _ hK11 => ?_
        refine Fw.region ?_
        refine Fw.s (Fw.val_move rfl) rfl ?_
        refine Fw.call cf11 rfl rfl (rnew_any _ A cf c0 (h.low HB)) ?_
        rintro e_ w3 ⟨AM, cM, r, rfl, hy, -, hb⟩
        refine ⟨_, rfl, ?_⟩
        replace HR := HR.low hb
        replace HB := HB.trans (hb.mono HB.size)
        clear hb
        obtain ⟨rfl, HM⟩ := hy hE
        rw [hE]
        refine Fw.s (Fw.val_move rfl) rfl ?_
        refine Fw.s (Fw.val_extract rfl rfl) rfl ?_
        refine Fw.s (Fw.val_extract rfl rfl) rfl ?_
        refine Fw.s (Fw.val_assign rfl) rfl ?_
        refine Fw.s (Fw.val_assign rfl) rfl ?_
        refine Fw.nil ?_
        refine hK11 _ _ (Fw.FC.sub (f' := [(8, _), (7, _), (6, _), (5, _), (1, _)]) (.cons rfl (.cons rfl (.cons rfl (.cons rfl (.cons rfl .nil))))) ?_)
        refine Fw.seq fun _ hK12 => ?_
        refine Fw.seq fun _ hK13 => ?_
        refine Fw.region ?_
        refine Fw.s (Fw.val_move rfl) rfl ?_
        refine Fw.s (Fw.val_move rfl) rfl ?_
        refine Fw.s (Fw.Val.F (Fw.val_bin rfl rfl Fw.b_neq) (by simp)) rfl ?_
        refine Fw.s (Fw.val_move rfl) rfl ?_
        refine Fw.gT (d := 36) rfl rfl ?_
        refine Fw.s (Fw.val_move rfl) rfl ?_
        refine Fw.gT (d := 36) rfl rfl ?_
        refine Fw.s (Fw.Val.F (Fw.val_bin rfl rfl Fw.b_neq) (by decide)) rfl ?_
        refine Fw.s (Fw.val_pickF rfl rfl) rfl ?_
        refine Fw.nil ?_
        refine hK13 _ _ ?_
        refine Fw.condF rfl ?_
        refine Fw.skip ?_
        refine hK12 _ _ (Fw.FC.sub (f' := [(7, _), (5, _), (1, _)]) (.cons rfl (.cons rfl (.cons rfl .nil))) ?_)
        refine Fw.seq fun _ hK14 => ?_
        refine Fw.seq fun _ hK15 => ?_
        refine Fw.region ?_
        refine Fw.s (Fw.val_move rfl) rfl ?_
        refine Fw.s (Fw.val_len Try.underlying43 rfl) rfl ?_
        refine Fw.s (Fw.val_move rfl) rfl ?_
        refine Fw.nil ?_
        refine hK15 _ _ ?_
        refine Fw.block ?_
        replace HR : RegAt w3 w.heap.size p g cf.length (Us.playL (Us.newL cf) (acts.take 0)) := HR
        replace HM : Fw.RdT w3 40 AM ((Us.playL (Us.newL cf) (acts.take 0)).flatMap Us.U.cells) := HM
        have hle : cf.length ≤ 256 := by omega
        refine Fw.loop (fun m_ f_ W_ => ∃ (k : Nat) (A_ : Option Addr) (c_ : Nat), m_ = acts.length - k ∧ k ≤ acts.length ∧ RegAt W_ w.heap.size p g cf.length (Us.playL (Us.newL cf) (acts.take k)) ∧ Fw.RdT W_ 40 A_ ((Us.playL (Us.newL cf) (acts.take k)).flatMap Us.U.cells) ∧ Below (w.heap.size) w W_ ∧ f_ = [(49, .int .i64 k), (48, .int .i64 acts.length), (47, .slice A2 acts.length c2), (7, .slice A_ (Us.playL (Us.newL cf) (acts.take k)).length c_), (5, .pointer (some ⟨p, 0, none⟩))]) ⟨_, _, ⟨0, AM, cM, rfl, Nat.zero_le _, HR, HM, HB, rfl⟩, (.cons rfl (.cons rfl (.cons rfl (.cons rfl (.cons rfl .nil)))))⟩ ?_
        clear HR HM HB
        rintro m16_ _ w4 ⟨k, A_, c_, hm16_, hkl, HR, HM, HB, rfl⟩
        refine Fw.seq fun _ hK17 => ?_
        refine Fw.region ?_
        refine Fw.s2 (Fw.val_bin rfl rfl Fw.b_lss) rfl ?_ ?_
        · rintro hk
          refine Fw.nil ?_
          refine hK17 _ _ ?_
          refine Fw.seq fun _ hK19 => ?_
          refine Fw.condT rfl ?_
          refine Fw.skip ?_
          refine hK19 _ _ ?_
          refine Fw.seq fun _ hK20 => ?_
          refine Fw.block ?_
          refine Fw.seq fun _ hK21 => ?_
          have hkn : k < acts.length := by omega
          obtain ⟨ad, b_, o, hA, hadd, HE⟩ := Fw.rdAt Us.Act.len (by decide) (h2.low HB) k hkn
          have hG := (Us.good_new hE).play (acts.take k)
          refine Fw.region ?_
          refine Fw.s (Fw.val_indexR Try.underlying43 sz47 rfl hA rfl rfl hkn hadd) rfl ?_
          refine Fw.ldA ag47 rfl (HE) rfl rfl ?_
          refine Fw.alloc ze47 rfl ?_
          intro w5 gX10 egX10 HX10 hb
          have fr_HR_gX10 := HR.fresh egX10
          have fr_HM_gX10 := Fw.RdT.fresh HM egX10
          have lgX10 : w.heap.size ≤ gX10 := by have := HB.size; omega
          clear HE
          replace HR := HR.low hb
          replace HM := HM.low hb
          replace HB := HB.trans (hb.mono HB.size)
          clear hb
          clear egX10
          refine Fw.storeW sz47 rfl rfl HX10 rfl rfl (by exact Fw.oneCells rfl) ?_
          intro w6 N_ hc
          replace HR := HR.chg hc fr_HR_gX10.1 fr_HR_gX10.2
          replace HM := HM.chg hc fr_HM_gX10
          replace HB := HB.trans (hc.below (B := w.heap.size) (fun k e => by omega) HB.size)
          clear hc
          clear HX10
          have HX10 := N_
          clear N_
          refine Fw.nil ?_
          refine hK21 _ _ ?_
          refine Fw.seq fun _ hK23 => ?_
          refine Fw.region ?_
          refine Fw.s (Fw.val_move rfl) rfl ?_
          refine Fw.s (Fw.val_move rfl) rfl ?_
          refine Fw.ldA ag47 rfl (Fw.rdBlk HX10) rfl rfl ?_
          refine Fw.call cf16 rfl rfl (do_any _ w.heap.size p g cf.length (Us.playL (Us.newL cf) (acts.take k)) A_ c_ (Us.playL (Us.newL cf) (acts.take k)) acts[k] HR HM hG.wf (by rw [Us.playL_len, Us.newL_len]; exact hle) (by rw [Us.playL_len, Us.newL_len]; exact hle)) ?_
          rintro e_ w7 ⟨A1, cc1, b, rfl, hbt, HM2, HR2, hc⟩
          refine ⟨_, rfl, ?_⟩
          replace HB := HB.trans (hc.below (B := w.heap.size) (fun k e => by omega) HB.size)
          clear hc
          obtain rfl := hbt rfl
          clear HR HM
          have HR := HR2
          have HM := HM2
          clear HR2 HM2
          refine Fw.s (Fw.val_move rfl) rfl ?_
          refine Fw.s (Fw.val_extract rfl rfl) rfl ?_
          refine Fw.s (Fw.val_extract rfl rfl) rfl ?_
          refine Fw.s (Fw.val_assign rfl) rfl ?_
          refine Fw.s (Fw.val_assign rfl) rfl ?_
          refine Fw.nil ?_
          refine hK23 _ _ (Fw.FC.sub (f' := [(12, _), (11, _), (49, _), (48, _), (47, _), (5, _)]) (.cons rfl (.cons rfl (.cons rfl (.cons rfl (.cons rfl (.cons rfl .nil)))))) ?_)
          refine Fw.seq fun _ hK24 => ?_
          refine Fw.region ?_
          refine Fw.s (Fw.val_move rfl) rfl ?_
          refine Fw.s (Fw.val_assign rfl) rfl ?_
          refine Fw.nil ?_
          refine hK24 _ _ ?_
          refine Fw.seq fun _ hK25 => ?_
          refine Fw.region ?_
          refine Fw.s (Fw.val_move rfl) rfl ?_
          refine Fw.s (Fw.val_not rfl) rfl ?_
          refine Fw.s (Fw.val_move rfl) rfl ?_
          refine Fw.gT (d := 63) rfl rfl ?_
          refine Fw.s (Fw.val_move rfl) rfl ?_
          refine Fw.gT (d := 63) rfl rfl ?_
          refine Fw.s (Fw.val_move rfl) rfl ?_
          refine Fw.gT (d := 63) rfl rfl ?_
          refine Fw.call cf14 rfl rfl (same_any _ w.heap.size p g cf.length (Us.doL acts[k] (Us.playL (Us.newL cf) (acts.take k))) A1 cc1 HR HM (by simp only [Us.doL_len, Us.playL_len, Us.newL_len]; exact hle)) ?_
          rintro e_ w8 ⟨rfl, hb⟩
          refine ⟨_, rfl, ?_⟩
          replace HR := HR.low hb
          replace HM := HM.low hb
          replace HB := HB.trans (hb.mono HB.size)
          clear hb
          refine Fw.bT (by rfl) ?_
          refine Fw.gT (d := 63) rfl rfl ?_
          refine Fw.s (Fw.val_not rfl) rfl ?_
          refine Fw.s (Fw.val_pickF rfl rfl) rfl ?_
          refine Fw.nil ?_
          refine hK25 _ _ ?_
          refine Fw.condF rfl ?_
          refine Fw.skip ?_
          refine Fw.X_blockN ?_
          refine hK20 _ _ (Fw.FC.sub (f' := [(67, _), (66, _), (65, _), (64, _), (7, _), (49, _), (48, _), (47, _), (5, _)]) (.cons rfl (.cons rfl (.cons rfl (.cons rfl (.cons rfl (.cons rfl (.cons rfl (.cons rfl (.cons rfl .nil))))))))) ?_)
          refine Fw.region ?_
          refine Fw.s (Fw.val_bin rfl rfl (Fw.b_add (Fw.i64_ok (by omega)))) rfl ?_
          refine Fw.s (Fw.val_move rfl) rfl ?_
          refine Fw.nil ?_
          rw [← Us.playL_snoc (Us.newL cf) acts k hkn] at HR HM ⊢
          refine Fw.roundEnd _ _ (by omega) ⟨k + 1, A1, cc1, rfl, hkn, HR, HM, HB, rfl⟩ (.cons rfl (.cons rfl (.cons rfl (.cons rfl (.cons rfl .nil)))))
        · rintro hk
          refine Fw.nil ?_
          refine hK17 _ _ ?_
          refine Fw.seq fun _ hK26 => ?_
          refine Fw.condF rfl ?_
          refine Fw.exit ?_
          refine Fw.X_exit ?_
          refine Fw.X_exit ?_
          refine Fw.X_block ?_
          refine hK14 _ _ ?_
          refine Fw.seq fun _ hK27 => ?_
          obtain rfl : k = acts.length := by omega
          rw [List.take_length] at HR HM ⊢
          refine Fw.region ?_
          refine Fw.s (Fw.val_move rfl) rfl ?_
          refine Fw.s (Fw.val_move rfl) rfl ?_
          refine Fw.call cf14 rfl rfl (same_any _ w.heap.size p g cf.length (Us.playL (Us.newL cf) acts) A_ c_ HR HM (by simp only [Us.doL_len, Us.playL_len, Us.newL_len]; exact hle)) ?_
          rintro e_ w9 ⟨rfl, hb⟩
          refine ⟨_, rfl, ?_⟩
          replace HR := HR.low hb
          replace HM := HM.low hb
          replace HB := HB.trans (hb.mono HB.size)
          clear hb
          refine Fw.bT (by rfl) ?_
          refine Fw.s (Fw.val_assign rfl) rfl ?_
          refine Fw.nil ?_
          refine hK27 _ _ (Fw.FC.sub (f' := [(4, _)]) (.cons rfl .nil) ?_)
          refine Fw.ret ?_
          refine Fw.ret_ [.tmp 4] [_] Try.results8 (.tmp rfl .nil) ?_
          exact ⟨rfl, HB⟩
  · skip
    refine Fw.calls Try.func8 rfl Try.ntmps8 rfl ?_
    have HB := Below.refl (w.heap.size) w
    refine Fw.seq fun _ hK1 => ?_
    refine Fw.region ?_
    refine Fw.s (Fw.val_assign rfl) rfl ?_
    refine Fw.nil ?_
    refine hK1 _ _ ?_
    refine Fw.seq fun _ hK2 => ?_
    refine Fw.seq fun _ hK3 => ?_
    refine Fw.region ?_
    refine Fw.call cf9 rfl rfl (wakes_any _) ?_
    rintro e_ w1 ⟨rfl, hb⟩
    refine ⟨_, rfl, ?_⟩
    replace HB := HB.trans (hb.mono HB.size)
    clear hb
    refine Fw.bT (by rfl) ?_
    refine Fw.s (Fw.val_not rfl) rfl ?_
    refine Fw.nil ?_
    refine hK3 _ _ ?_
    refine Fw.condF rfl ?_
    refine Fw.skip ?_
    refine hK2 _ _ ?_
    refine Fw.seq fun _ hK4 => ?_
    refine Fw.seq fun _ hK5 => ?_
    refine Fw.region ?_
    refine Fw.s (Fw.val_move rfl) rfl ?_
    refine Fw.s (Fw.val_len Try.underlying22 rfl) rfl ?_
    refine Fw.s2 (Fw.val_bin rfl rfl Fw.b_gtr) rfl ?_ ?_
    · rintro hn1
      refine Fw.s (Fw.val_move rfl) rfl ?_
      refine Fw.gF (d := 18) rfl rfl rfl rfl ?_
      refine Fw.gF (d := 18) rfl rfl rfl rfl ?_
      refine Fw.gF (d := 18) rfl rfl rfl rfl ?_
      refine Fw.s (Fw.val_pickT rfl rfl) rfl ?_
      refine Fw.nil ?_
      refine hK5 _ _ (Fw.FC.sub (f' := [(22, _), (0, _), (1, _)]) (.cons rfl (.cons rfl (.cons rfl .nil))) ?_)
      refine Fw.condT rfl ?_
      refine Fw.seq fun _ hK7 => ?_
      refine Fw.region ?_
      refine Fw.s (Fw.val_assign rfl) rfl ?_
      refine Fw.nil ?_
      refine hK7 _ _ ?_
      refine Fw.ret ?_
      refine Fw.X_ret ?_
      refine Fw.ret_ [.tmp 4] [_] Try.results8 (.tmp rfl .nil) ?_
      exact ⟨rfl, HB⟩
    · rintro hn1
      refine Fw.s (Fw.val_move rfl) rfl ?_
      refine Fw.gT (d := 18) rfl rfl ?_
      refine Fw.s (Fw.val_move rfl) rfl ?_
      refine Fw.gT (d := 18) rfl rfl ?_
      refine Fw.s (Fw.val_len Try.underlying43 rfl) rfl ?_
      refine Fw.gT (d := 18) rfl rfl ?_
      refine Fw.s2 (Fw.val_bin rfl rfl Fw.b_gtr) rfl ?_ ?_
      · rintro hn2
        refine Fw.s (Fw.val_pickF rfl rfl) rfl ?_
        refine Fw.nil ?_
        refine hK5 _ _ (Fw.FC.sub (f' := [(22, _), (0, _), (1, _)]) (.cons rfl (.cons rfl (.cons rfl .nil))) ?_)
        refine Fw.condT rfl ?_
        refine Fw.seq fun _ hK9 => ?_
        refine Fw.region ?_
        refine Fw.s (Fw.val_assign rfl) rfl ?_
        refine Fw.nil ?_
        refine hK9 _ _ ?_
        refine Fw.ret ?_
        refine Fw.X_ret ?_
        refine Fw.ret_ [.tmp 4] [_] Try.results8 (.tmp rfl .nil) ?_
        exact ⟨rfl, HB⟩
      · rintro hn2
        refine Fw.s (Fw.val_pickF rfl rfl) rfl ?_
        refine Fw.nil ?_
        refine hK5 _ _ (Fw.FC.sub (f' := [(22, _), (0, _), (1, _)]) (.cons rfl (.cons rfl (.cons rfl .nil))) ?_)
        refine Fw.condF rfl ?_
        refine Fw.skip ?_
        refine hK4 _ _ ?_
        refine Fw.seq fun _ hK10 => ?_
        refine Fw.region ?_
        refine Fw.s (Fw.val_move rfl) rfl ?_
        refine Fw.call cf10 rfl rfl (new_any _ A cf c0 (h.low HB)) ?_
        rintro e_ w2 ⟨x, rfl, hx1, -, hb⟩
        refine ⟨_, rfl, ?_⟩
        replace HB := HB.trans (hb.mono HB.size)
        clear hb
        obtain rfl := hx1 hE
        refine Fw.s (Fw.val_move rfl) rfl ?_
        refine Fw.s (Fw.val_extract rfl rfl) rfl ?_
        refine Fw.s (Fw.val_extract rfl rfl) rfl ?_
        refine Fw.s (Fw.val_assign rfl) rfl ?_
        refine Fw.s (Fw.val_assign rfl) rfl ?_
        refine Fw.nil ?_
        refine hK10 _ _ ?_
        refine Fw.seq fun _ hK11 => ?_
        refine Fw.region ?_
        refine Fw.s (Fw.val_move rfl) rfl ?_
        refine Fw.call cf11 rfl rfl (rnew_any _ A cf c0 (h.low HB)) ?_
        rintro e_ w3 ⟨AM, cM, r, rfl, -, hz, hb⟩
        refine ⟨_, rfl, ?_⟩
        replace HB := HB.trans (hb.mono HB.size)
        clear hb
        refine Fw.s (Fw.val_move rfl) rfl ?_
        refine Fw.s (Fw.val_extract rfl rfl) rfl ?_
        refine Fw.s (Fw.val_extract rfl rfl) rfl ?_
        refine Fw.s (Fw.val_assign rfl) rfl ?_
        refine Fw.s (Fw.val_assign rfl) rfl ?_
        refine Fw.nil ?_
        refine hK11 _ _ (Fw.FC.sub (f' := [(8, _), (7, _), (6, _), (5, _), (1, _)]) (.cons rfl (.cons rfl (.cons rfl (.cons rfl (.cons rfl .nil))))) ?_)
        refine Fw.seq fun _ hK12 => ?_
        refine Fw.seq fun _ hK13 => ?_
        refine Fw.region ?_
        refine Fw.s (Fw.val_move rfl) rfl ?_
        refine Fw.s (Fw.val_move rfl) rfl ?_
        refine Fw.s (Fw.Val.F (Fw.val_bin rfl rfl Fw.b_neq) (by simp)) rfl ?_
        refine Fw.s (Fw.val_move rfl) rfl ?_
        refine Fw.gT (d := 36) rfl rfl ?_
        refine Fw.s (Fw.val_move rfl) rfl ?_
        refine Fw.gT (d := 36) rfl rfl ?_
        refine Fw.s (Fw.Val.T (Fw.val_bin rfl rfl Fw.b_neq) (by exact hE)) rfl ?_
        refine Fw.s (Fw.val_pickF rfl rfl) rfl ?_
        refine Fw.nil ?_
        refine hK13 _ _ ?_
        refine Fw.condT rfl ?_
        refine Fw.seq fun _ hK14 => ?_
        refine Fw.region ?_
        refine Fw.s (Fw.val_move rfl) rfl ?_
        refine Fw.s (Fw.val_move rfl) rfl ?_
        refine Fw.s (Fw.Val.T (Fw.val_bin rfl rfl Fw.b_eql) (by rfl)) rfl ?_
        refine Fw.s (Fw.val_move rfl) rfl ?_
        refine Fw.gT (d := 43) rfl rfl ?_
        refine Fw.s (Fw.val_move rfl) rfl ?_
        refine Fw.gT (d := 43) rfl rfl ?_
        refine Fw.s (Fw.val_bin rfl rfl (Fw.b_nilP Try.underlying24)) rfl ?_
        refine Fw.s (Fw.val_pickT rfl rfl) rfl ?_
        refine Fw.s (Fw.val_assign rfl) rfl ?_
        refine Fw.nil ?_
        refine hK14 _ _ (Fw.FC.sub (f' := [(4, _)]) (.cons rfl .nil) ?_)
        refine Fw.ret ?_
        refine Fw.X_ret ?_
        refine Fw.ret_ [.tmp 4] [_] Try.results8 (.tmp rfl .nil) ?_
        exact ⟨rfl, HB⟩

theorem unit_out (w : World) (B p g c : Nat) (l : List Us.U) (id : Int) (ht : Us.there l id = false) (h : RegAt w B p g c l) : Calls Try.prog 12 #[.pointer (some ⟨p, 0, none⟩), .int .i64 id] w fun e_ w' => e_ = .returned (.tuple #[.agg (Us.U.head Us.zero).toArray, .bool false]) ∧ Below w.heap.size w w' := by
  have h1 := unit_any w B p g c l id h
  rw [show Us.unitA l id = Us.U.head Us.zero by unfold Us.unitA Us.unitI; rw [ht]; rfl, ht] at h1
  exact h1
theorem pend_no (w : World) (B p g c : Nat) (l : List Us.U) (id : Int) (hp : Us.pend l id = false) (h : RegAt w B p g c l) : Calls Try.prog 13 #[.pointer (some ⟨p, 0, none⟩), .int .i64 id] w fun e_ w' => e_ = .returned (.tuple #[.agg (Us.U.ord Us.zero).toArray, .bool false]) ∧ Below w.heap.size w w' := by
  have h1 := pendingOrder_any w B p g c l id h
  rw [show Us.ordA l id = Us.U.ord Us.zero by unfold Us.ordA Us.ordI; rw [hp]; rfl, hp] at h1
  exact h1
theorem Us.pend_new {cf : List Us.Cfg} {id : Int} : Us.pend (Us.newL cf) id = false := by
  unfold Us.pend
  cases ht : Us.there (Us.newL cf) id with
  | false => rfl
  | true =>
    have h1 := of_decide_eq_true ht
    have hi : id.toNat < cf.length := by have := Us.newL_len cf; omega
    rw [Us.get_at (i := id.toNat) (by omega) (by rw [Us.newL_len]; exact hi), Us.newL_at cf _ hi]; rfl

set_option maxRecDepth 100000 in
set_option maxHeartbeats 1000000 in
theorem lawNew_any (w : World) (A : Option Addr) (cf : List Us.Cfg) (c0 : Nat) (id : Int) (h : Rd w A (cf.flatMap Us.Cfg.cells)) : Calls Try.prog 3 #[.slice A cf.length c0, .int .i64 id] w fun e_ w' => e_ = .returned (.bool true) ∧ Below w.heap.size w w' := by
  by_cases hE : Us.newE cf = 0
  · have hle : cf.length ≤ 256 := by
      unfold Us.newE at hE; split at hE
      · cases hE
      · omega
    cases hth : Us.there (Us.newL cf) id with
    | true =>
      obtain ⟨i, hid, hi⟩ : ∃ i : Nat, id = i ∧ i < (Us.newL cf).length := by have := of_decide_eq_true hth; exact ⟨id.toNat, by omega, by omega⟩
      have hln := Us.newL_len cf
      refine Fw.calls Try.func3 rfl Try.ntmps3 rfl ?_
      have HB := Below.refl (w.heap.size) w
      refine Fw.seq fun _ hK1 => ?_
      refine Fw.region ?_
      refine Fw.s (Fw.val_assign rfl) rfl ?_
      refine Fw.nil ?_
      refine hK1 _ _ ?_
      refine Fw.seq fun _ hK2 => ?_
      refine Fw.seq fun _ hK3 => ?_
      refine Fw.region ?_
      refine Fw.call cf9 rfl rfl (wakes_any _) ?_
      rintro e_ w1 ⟨rfl, hb⟩
      refine ⟨_, rfl, ?_⟩
      replace HB := HB.trans (hb.mono HB.size)
      clear hb
      refine Fw.bT (by rfl) ?_
      refine Fw.s (Fw.val_not rfl) rfl ?_
      refine Fw.nil ?_
      refine hK3 _ _ ?_
      refine Fw.condF rfl ?_
      refine Fw.skip ?_
      refine hK2 _ _ ?_
      refine Fw.seq fun _ hK4 => ?_
      refine Fw.seq fun _ hK5 => ?_
      refine Fw.region ?_
      refine Fw.s (Fw.val_move rfl) rfl ?_
      refine Fw.s (Fw.val_len Try.underlying22 rfl) rfl ?_
      refine Fw.s (Fw.Val.F (Fw.val_bin rfl rfl Fw.b_gtr) (by omega)) rfl ?_
      refine Fw.nil ?_
      refine hK5 _ _ ?_
      refine Fw.condF rfl ?_
      refine Fw.skip ?_
      refine hK4 _ _ ?_
      refine Fw.seq fun _ hK6 => ?_
      refine Fw.region ?_
      refine Fw.s (Fw.val_move rfl) rfl ?_
      refine Fw.call cf10 rfl rfl (new_any _ A cf c0 (h.low HB)) ?_
      rintro e_ w2 ⟨x, rfl, -, hx2, hb⟩
      refine ⟨_, rfl, ?_⟩
      have hs0 := HB.size
      replace HB := HB.trans (hb.mono HB.size)
      clear hb
      obtain ⟨p, g, rfl, HR⟩ := hx2 hE
      replace HR := HR.mono hs0
      have lp := HR.1
      have lg := HR.2.1
      rw [hE]
      refine Fw.s (Fw.val_move rfl) rfl ?_
      refine Fw.s (Fw.val_extract rfl rfl) rfl ?_
      refine Fw.s (Fw.val_extract rfl rfl) rfl ?_
      refine Fw.s (Fw.val_assign rfl) rfl ?_
      refine Fw.s (Fw.val_assign rfl) rfl ?_
      refine Fw.nil ?_
      refine hK6 _ _ (Fw.FC.sub (f' := [(6, _), (5, _), (0, _), (1, _)]) (.cons rfl (.cons rfl (.cons rfl (.cons rfl .nil)))) ?_)
      refine Fw.seq fun _ hK7 => ?_
      refine Fw.region ?_
      refine Fw.s (Fw.val_move rfl) rfl ?_
      refine Fw.call cf11 rfl rfl (rnew_any _ A cf c0 (h.low HB)) ?_
      rintro e_ w3 ⟨AM, cM, r, rfl, hy, -, hb⟩
      refine ⟨_, rfl, ?_⟩
      replace HR := HR.low hb
      replace HB := HB.trans (hb.mono HB.size)
      clear hb
      obtain ⟨rfl, HM⟩ := hy hE
      rw [hE]
      refine Fw.s (Fw.val_move rfl) rfl ?_
      refine Fw.s (Fw.val_extract rfl rfl) rfl ?_
      refine Fw.s (Fw.val_extract rfl rfl) rfl ?_
      refine Fw.s (Fw.val_assign rfl) rfl ?_
      refine Fw.s (Fw.val_assign rfl) rfl ?_
      refine Fw.nil ?_
      refine hK7 _ _ ?_
      refine Fw.seq fun _ hK8 => ?_
      refine Fw.seq fun _ hK9 => ?_
      refine Fw.region ?_
      refine Fw.s (Fw.val_move rfl) rfl ?_
      refine Fw.s (Fw.val_move rfl) rfl ?_
      refine Fw.s (Fw.Val.F (Fw.val_bin rfl rfl Fw.b_neq) (by simp)) rfl ?_
      refine Fw.s (Fw.val_move rfl) rfl ?_
      refine Fw.gT (d := 31) rfl rfl ?_
      refine Fw.s (Fw.val_move rfl) rfl ?_
      refine Fw.gT (d := 31) rfl rfl ?_
      refine Fw.s (Fw.Val.F (Fw.val_bin rfl rfl Fw.b_neq) (by decide)) rfl ?_
      refine Fw.s (Fw.val_pickF rfl rfl) rfl ?_
      refine Fw.nil ?_
      refine hK9 _ _ (Fw.FC.sub (f' := [(34, _), (8, _), (7, _), (6, _), (5, _), (0, _), (1, _)]) (.cons rfl (.cons rfl (.cons rfl (.cons rfl (.cons rfl (.cons rfl (.cons rfl .nil))))))) ?_)
      refine Fw.condF rfl ?_
      refine Fw.skip ?_
      refine hK8 _ _ ?_
      refine Fw.seq fun _ hK10 => ?_
      refine Fw.region ?_
      refine Fw.s (Fw.val_move rfl) rfl ?_
      refine Fw.s (Fw.val_move rfl) rfl ?_
      refine Fw.call cf12 rfl rfl (unit_at _ w.heap.size p g cf.length (Us.newL cf) id i hid hi HR) ?_
      rintro e_ w4 ⟨rfl, hb⟩
      refine ⟨_, rfl, ?_⟩
      replace HR := HR.low hb
      replace HM := HM.low hb
      replace HB := HB.trans (hb.mono HB.size)
      clear hb
      refine Fw.s (Fw.val_move rfl) rfl ?_
      refine Fw.s (Fw.val_extract rfl rfl) rfl ?_
      refine Fw.s (Fw.val_extract rfl rfl) rfl ?_
      refine Fw.bT (by rfl) ?_
      refine Fw.alloc ze32 rfl ?_
      intro w5 gX9 egX9 HX9 hb
      have fr_HR_gX9 := HR.fresh egX9
      have fr_HM_gX9 := Fw.RdT.fresh HM egX9
      have lgX9 : w.heap.size ≤ gX9 := by have := HB.size; omega
      replace HR := HR.low hb
      replace HM := HM.low hb
      replace HB := HB.trans (hb.mono HB.size)
      clear hb
      clear egX9
      refine Fw.storeW sz32 rfl rfl HX9 rfl rfl (by exact Fw.oneCells rfl) ?_
      intro w6 N_ hc
      replace HR := HR.chg hc fr_HR_gX9.1 fr_HR_gX9.2
      replace HM := HM.chg hc fr_HM_gX9
      replace HB := HB.trans (hc.below (B := w.heap.size) (fun k e => by omega) HB.size)
      clear hc
      clear HX9
      have HX9 := N_
      clear N_
      refine Fw.s (Fw.val_assign rfl) rfl ?_
      refine Fw.nil ?_
      refine hK10 _ _ (Fw.FC.sub (f' := [(10, _), (9, _), (7, _), (5, _), (0, _), (1, _)]) (.cons rfl (.cons rfl (.cons rfl (.cons rfl (.cons rfl (.cons rfl .nil)))))) ?_)
      refine Fw.seq fun _ hK11 => ?_
      refine Fw.region ?_
      refine Fw.s (Fw.val_move rfl) rfl ?_
      refine Fw.s (Fw.val_move rfl) rfl ?_
      refine Fw.call cf13 rfl rfl (pend_no _ w.heap.size p g cf.length (Us.newL cf) id Us.pend_new HR) ?_
      rintro e_ w7 ⟨rfl, hb⟩
      refine ⟨_, rfl, ?_⟩
      replace HR := HR.low hb
      replace HM := HM.low hb
      replace HX9 := HX9.low hb
      replace HB := HB.trans (hb.mono HB.size)
      clear hb
      refine Fw.s (Fw.val_move rfl) rfl ?_
      refine Fw.s (Fw.val_extract rfl rfl) rfl ?_
      refine Fw.s (Fw.val_extract rfl rfl) rfl ?_
      refine Fw.bF (by rfl) ?_
      refine Fw.alloc ze36 rfl ?_
      intro w8 gX11 egX11 HX11 hb
      have fr_HR_gX11 := HR.fresh egX11
      have fr_HM_gX11 := Fw.RdT.fresh HM egX11
      have n_gX9_gX11 : gX9 < gX11 := by have := HX9.lt; omega
      have lgX11 : w.heap.size ≤ gX11 := by have := HB.size; omega
      replace HR := HR.low hb
      replace HM := HM.low hb
      replace HX9 := HX9.low hb
      replace HB := HB.trans (hb.mono HB.size)
      clear hb
      clear egX11
      refine Fw.storeW sz36 rfl rfl HX11 rfl rfl (by exact Fw.oneCells rfl) ?_
      intro w9 N_ hc
      replace HR := HR.chg hc fr_HR_gX11.1 fr_HR_gX11.2
      replace HM := HM.chg hc fr_HM_gX11
      replace HX9 := HX9.chg hc (by omega)
      replace HB := HB.trans (hc.below (B := w.heap.size) (fun k e => by omega) HB.size)
      clear hc
      clear HX11
      have HX11 := N_
      clear N_
      refine Fw.s (Fw.val_assign rfl) rfl ?_
      refine Fw.nil ?_
      refine hK11 _ _ ?_
      refine Fw.seq fun _ hK12 => ?_
      refine Fw.seq fun _ hK13 => ?_
      refine Fw.region ?_
      refine Fw.s (Fw.val_move rfl) rfl ?_
      refine Fw.s (Fw.Val.T (Fw.val_bin rfl rfl Fw.b_geq) (by omega)) rfl ?_
      refine Fw.s (Fw.val_move rfl) rfl ?_
      refine Fw.gT (d := 56) rfl rfl ?_
      refine Fw.s (Fw.val_move rfl) rfl ?_
      refine Fw.gT (d := 56) rfl rfl ?_
      refine Fw.s (Fw.val_move rfl) rfl ?_
      refine Fw.gT (d := 56) rfl rfl ?_
      refine Fw.s (Fw.val_len Try.underlying22 rfl) rfl ?_
      refine Fw.gT (d := 56) rfl rfl ?_
      refine Fw.s (Fw.Val.T (Fw.val_bin rfl rfl Fw.b_lss) (by omega)) rfl ?_
      refine Fw.s (Fw.val_pickT rfl rfl) rfl ?_
      refine Fw.nil ?_
      refine hK13 _ _ (Fw.FC.sub (f' := [(61, _), (12, _), (11, _), (10, _), (9, _), (7, _), (5, _), (1, _)]) (.cons rfl (.cons rfl (.cons rfl (.cons rfl (.cons rfl (.cons rfl (.cons rfl (.cons rfl .nil)))))))) ?_)
      refine Fw.condT rfl ?_
      refine Fw.seq fun _ hK14 => ?_
      obtain ⟨ad, b_, o, hA, hadd, HE⟩ := Fw.rdAt Us.U.len (by decide) HM.1 i hi
      refine Fw.regionQ (by kernel_rfl) (by kernel_rfl) ?_
      refine Fw.q (Fw.val_move rfl) rfl ?_
      refine Fw.q (Fw.val_move rfl) rfl ?_
      refine Fw.gTQ (d := 63) rfl rfl ?_
      refine Fw.ldAQ ag32 rfl (Fw.rdBlk HX9) rfl rfl ?_
      refine Fw.gTQ (d := 63) rfl rfl ?_
      refine Fw.q (Fw.val_move rfl) rfl ?_
      refine Fw.gTQ (d := 63) rfl rfl ?_
      refine Fw.q (Fw.val_move rfl) rfl ?_
      refine Fw.gTQ (d := 63) rfl rfl ?_
      refine Fw.q (Fw.val_indexR Try.underlying28 sz40 rfl hA rfl hid hi hadd) rfl ?_
      refine Fw.gTQ (d := 63) rfl rfl ?_
      refine Fw.q (Fw.val_fieldAddr fl40_0 rfl rfl) rfl ?_
      refine Fw.gTQ (d := 63) rfl rfl ?_
      refine Fw.ldAQ ag32 rfl (Fw.rdPart HE 0 10) rfl rfl ?_
      refine Fw.gTQ (d := 63) rfl rfl ?_
      refine Fw.q (Fw.Val.T (Fw.val_bin rfl rfl (Fw.b_eqlA eq32 (Us.newL cf)[i].headI (Us.newL cf)[i].headI rfl rfl)) (by rfl)) rfl ?_
      refine Fw.q (Fw.val_pickT rfl rfl) rfl ?_
      refine Fw.q (Fw.val_move rfl) rfl ?_
      refine Fw.gTQ (d := 72) rfl rfl ?_
      refine Fw.q (Fw.val_move rfl) rfl ?_
      refine Fw.gTQ (d := 72) rfl rfl ?_
      refine Fw.q (Fw.val_not rfl) rfl ?_
      refine Fw.q (Fw.val_pickT rfl rfl) rfl ?_
      refine Fw.q (Fw.val_move rfl) rfl ?_
      refine Fw.gTQ (d := 76) rfl rfl ?_
      refine Fw.q (Fw.val_move rfl) rfl ?_
      refine Fw.gTQ (d := 76) rfl rfl ?_
      refine Fw.q (Fw.val_move rfl) rfl ?_
      refine Fw.gTQ (d := 76) rfl rfl ?_
      refine Fw.callQ cf14 rfl rfl (fun w_ hb_ => same_any _ w.heap.size p g cf.length (Us.newL cf) AM cM (HR.low hb_) (HM.low hb_) (by rw [Us.newL_len]; exact hle)) (fun _ _ _ h => h) ?_
      refine Fw.bTQ (by rfl) ?_
      refine Fw.q (Fw.val_pickT rfl rfl) rfl ?_
      refine Fw.q (Fw.val_assign rfl) rfl ?_
      refine Fw.nilQ ?_
      intro w10 hb
      clear HE
      replace HR := HR.low hb
      replace HM := HM.low hb
      replace HX9 := HX9.low hb
      replace HX11 := HX11.low hb
      replace HB := HB.trans (hb.mono HB.size)
      clear hb
      refine hK14 _ _ (Fw.FC.sub (f' := [(4, _)]) (.cons rfl .nil) ?_)
      refine Fw.ret ?_
      refine Fw.X_ret ?_
      refine Fw.ret_ [.tmp 4] [_] Try.results3 (.tmp rfl .nil) ?_
      exact ⟨rfl, HB⟩
    | false =>
      have hln := Us.newL_len cf
      have hno := of_decide_eq_false hth
      refine Fw.calls Try.func3 rfl Try.ntmps3 rfl ?_
      have HB := Below.refl (w.heap.size) w
      refine Fw.seq fun _ hK1 => ?_
      refine Fw.region ?_
      refine Fw.s (Fw.val_assign rfl) rfl ?_
      refine Fw.nil ?_
      refine hK1 _ _ ?_
      refine Fw.seq fun _ hK2 => ?_
      refine Fw.seq fun _ hK3 => ?_
      refine Fw.region ?_
      refine Fw.call cf9 rfl rfl (wakes_any _) ?_
      rintro e_ w1 ⟨rfl, hb⟩
      refine ⟨_, rfl, ?_⟩
      replace HB := HB.trans (hb.mono HB.size)
      clear hb
      refine Fw.bT (by rfl) ?_
      refine Fw.s (Fw.val_not rfl) rfl ?_
      refine Fw.nil ?_
      refine hK3 _ _ ?_
      refine Fw.condF rfl ?_
      refine Fw.skip ?_
      refine hK2 _ _ ?_
      refine Fw.seq fun _ hK4 => ?_
      refine Fw.seq fun _ hK5 => ?_
      refine Fw.region ?_
      refine Fw.s (Fw.val_move rfl) rfl ?_
      refine Fw.s (Fw.val_len Try.underlying22 rfl) rfl ?_
      refine Fw.s (Fw.Val.F (Fw.val_bin rfl rfl Fw.b_gtr) (by omega)) rfl ?_
      refine Fw.nil ?_
      refine hK5 _ _ ?_
      refine Fw.condF rfl ?_
      refine Fw.skip ?_
      refine hK4 _ _ ?_
      refine Fw.seq fun _ hK6 => ?_
      refine Fw.region ?_
      refine Fw.s (Fw.val_move rfl) rfl ?_
      refine Fw.call cf10 rfl rfl (new_any _ A cf c0 (h.low HB)) ?_
      rintro e_ w2 ⟨x, rfl, -, hx2, hb⟩
      refine ⟨_, rfl, ?_⟩
      have hs0 := HB.size
      replace HB := HB.trans (hb.mono HB.size)
      clear hb
      obtain ⟨p, g, rfl, HR⟩ := hx2 hE
      replace HR := HR.mono hs0
      have lp := HR.1
      have lg := HR.2.1
      rw [hE]
      refine Fw.s (Fw.val_move rfl) rfl ?_
      refine Fw.s (Fw.val_extract rfl rfl) rfl ?_
      refine Fw.s (Fw.val_extract rfl rfl) rfl ?_
      refine Fw.s (Fw.val_assign rfl) rfl ?_
      refine Fw.s (Fw.val_assign rfl) rfl ?_
      refine Fw.nil ?_
      refine hK6 _ _ (Fw.FC.sub (f' := [(6, _), (5, _), (0, _), (1, _)]) (.cons rfl (.cons rfl (.cons rfl (.cons rfl .nil)))) ?_)
      refine Fw.seq fun _ hK7 => ?_
      refine Fw.region ?_
      refine Fw.s (Fw.val_move rfl) rfl ?_
      refine Fw.call cf11 rfl rfl (rnew_any _ A cf c0 (h.low HB)) ?_
      rintro e_ w3 ⟨AM, cM, r, rfl, hy, -, hb⟩
      refine ⟨_, rfl, ?_⟩
      replace HR := HR.low hb
      replace HB := HB.trans (hb.mono HB.size)
      clear hb
      obtain ⟨rfl, HM⟩ := hy hE
      rw [hE]
      refine Fw.s (Fw.val_move rfl) rfl ?_
      refine Fw.s (Fw.val_extract rfl rfl) rfl ?_
      refine Fw.s (Fw.val_extract rfl rfl) rfl ?_
      refine Fw.s (Fw.val_assign rfl) rfl ?_
      refine Fw.s (Fw.val_assign rfl) rfl ?_
      refine Fw.nil ?_
      refine hK7 _ _ ?_
      refine Fw.seq fun _ hK8 => ?_
      refine Fw.seq fun _ hK9 => ?_
      refine Fw.region ?_
      refine Fw.s (Fw.val_move rfl) rfl ?_
      refine Fw.s (Fw.val_move rfl) rfl ?_
      refine Fw.s (Fw.Val.F (Fw.val_bin rfl rfl Fw.b_neq) (by simp)) rfl ?_
      refine Fw.s (Fw.val_move rfl) rfl ?_
      refine Fw.gT (d := 31) rfl rfl ?_
      refine Fw.s (Fw.val_move rfl) rfl ?_
      refine Fw.gT (d := 31) rfl rfl ?_
      refine Fw.s (Fw.Val.F (Fw.val_bin rfl rfl Fw.b_neq) (by decide)) rfl ?_
      refine Fw.s (Fw.val_pickF rfl rfl) rfl ?_
      refine Fw.nil ?_
      refine hK9 _ _ (Fw.FC.sub (f' := [(34, _), (8, _), (7, _), (6, _), (5, _), (0, _), (1, _)]) (.cons rfl (.cons rfl (.cons rfl (.cons rfl (.cons rfl (.cons rfl (.cons rfl .nil))))))) ?_)
      refine Fw.condF rfl ?_
      refine Fw.skip ?_
      refine hK8 _ _ ?_
      refine Fw.seq fun _ hK10 => ?_
      refine Fw.region ?_
      refine Fw.s (Fw.val_move rfl) rfl ?_
      refine Fw.s (Fw.val_move rfl) rfl ?_
      refine Fw.call cf12 rfl rfl (unit_out _ w.heap.size p g cf.length (Us.newL cf) id hth HR) ?_
      rintro e_ w4 ⟨rfl, hb⟩
      refine ⟨_, rfl, ?_⟩
      replace HR := HR.low hb
      replace HM := HM.low hb
      replace HB := HB.trans (hb.mono HB.size)
      clear hb
      refine Fw.s (Fw.val_move rfl) rfl ?_
      refine Fw.s (Fw.val_extract rfl rfl) rfl ?_
      refine Fw.s (Fw.val_extract rfl rfl) rfl ?_
      refine Fw.bF (by rfl) ?_
      refine Fw.alloc ze32 rfl ?_
      intro w5 gX9 egX9 HX9 hb
      have fr_HR_gX9 := HR.fresh egX9
      have fr_HM_gX9 := Fw.RdT.fresh HM egX9
      have lgX9 : w.heap.size ≤ gX9 := by have := HB.size; omega
      replace HR := HR.low hb
      replace HM := HM.low hb
      replace HB := HB.trans (hb.mono HB.size)
      clear hb
      clear egX9
      refine Fw.storeW sz32 rfl rfl HX9 rfl rfl (by exact Fw.oneCells rfl) ?_
      intro w6 N_ hc
      replace HR := HR.chg hc fr_HR_gX9.1 fr_HR_gX9.2
      replace HM := HM.chg hc fr_HM_gX9
      replace HB := HB.trans (hc.below (B := w.heap.size) (fun k e => by omega) HB.size)
      clear hc
      clear HX9
      have HX9 := N_
      clear N_
      refine Fw.s (Fw.val_assign rfl) rfl ?_
      refine Fw.nil ?_
      refine hK10 _ _ (Fw.FC.sub (f' := [(10, _), (9, _), (7, _), (5, _), (0, _), (1, _)]) (.cons rfl (.cons rfl (.cons rfl (.cons rfl (.cons rfl (.cons rfl .nil)))))) ?_)
      refine Fw.seq fun _ hK11 => ?_
      refine Fw.region ?_
      refine Fw.s (Fw.val_move rfl) rfl ?_
      refine Fw.s (Fw.val_move rfl) rfl ?_
      refine Fw.call cf13 rfl rfl (pend_no _ w.heap.size p g cf.length (Us.newL cf) id Us.pend_new HR) ?_
      rintro e_ w7 ⟨rfl, hb⟩
      refine ⟨_, rfl, ?_⟩
      replace HR := HR.low hb
      replace HM := HM.low hb
      replace HX9 := HX9.low hb
      replace HB := HB.trans (hb.mono HB.size)
      clear hb
      refine Fw.s (Fw.val_move rfl) rfl ?_
      refine Fw.s (Fw.val_extract rfl rfl) rfl ?_
      refine Fw.s (Fw.val_extract rfl rfl) rfl ?_
      refine Fw.bF (by rfl) ?_
      refine Fw.alloc ze36 rfl ?_
      intro w8 gX11 egX11 HX11 hb
      have fr_HR_gX11 := HR.fresh egX11
      have fr_HM_gX11 := Fw.RdT.fresh HM egX11
      have n_gX9_gX11 : gX9 < gX11 := by have := HX9.lt; omega
      have lgX11 : w.heap.size ≤ gX11 := by have := HB.size; omega
      replace HR := HR.low hb
      replace HM := HM.low hb
      replace HX9 := HX9.low hb
      replace HB := HB.trans (hb.mono HB.size)
      clear hb
      clear egX11
      refine Fw.storeW sz36 rfl rfl HX11 rfl rfl (by exact Fw.oneCells rfl) ?_
      intro w9 N_ hc
      replace HR := HR.chg hc fr_HR_gX11.1 fr_HR_gX11.2
      replace HM := HM.chg hc fr_HM_gX11
      replace HX9 := HX9.chg hc (by omega)
      replace HB := HB.trans (hc.below (B := w.heap.size) (fun k e => by omega) HB.size)
      clear hc
      clear HX11
      have HX11 := N_
      clear N_
      refine Fw.s (Fw.val_assign rfl) rfl ?_
      refine Fw.nil ?_
      refine hK11 _ _ ?_
      refine Fw.seq fun _ hK12 => ?_
      refine Fw.seq fun _ hK13 => ?_
      refine Fw.region ?_
      refine Fw.s (Fw.val_move rfl) rfl ?_
      refine Fw.s2 (Fw.val_bin rfl rfl Fw.b_geq) rfl ?_ ?_
      · rintro hid
        refine Fw.s (Fw.val_move rfl) rfl ?_
        refine Fw.gT (d := 56) rfl rfl ?_
        refine Fw.s (Fw.val_move rfl) rfl ?_
        refine Fw.gT (d := 56) rfl rfl ?_
        refine Fw.s (Fw.val_move rfl) rfl ?_
        refine Fw.gT (d := 56) rfl rfl ?_
        refine Fw.s (Fw.val_len Try.underlying22 rfl) rfl ?_
        refine Fw.gT (d := 56) rfl rfl ?_
        refine Fw.s (Fw.Val.F (Fw.val_bin rfl rfl Fw.b_lss) (by omega)) rfl ?_
        refine Fw.s (Fw.val_pickT rfl rfl) rfl ?_
        refine Fw.nil ?_
        refine hK13 _ _ (Fw.FC.sub (f' := [(61, _), (12, _), (11, _), (10, _), (9, _), (7, _), (5, _), (1, _)]) (.cons rfl (.cons rfl (.cons rfl (.cons rfl (.cons rfl (.cons rfl (.cons rfl (.cons rfl .nil)))))))) ?_)
        refine Fw.condF rfl ?_
        refine Fw.skip ?_
        refine hK12 _ _ ?_
        refine Fw.seq fun _ hK15 => ?_
        refine Fw.region ?_
        refine Fw.s (Fw.val_move rfl) rfl ?_
        refine Fw.s (Fw.val_not rfl) rfl ?_
        refine Fw.s (Fw.val_move rfl) rfl ?_
        refine Fw.gT (d := 83) rfl rfl ?_
        refine Fw.ldA ag32 rfl (Fw.rdBlk HX9) rfl rfl ?_
        refine Fw.gT (d := 83) rfl rfl ?_
        refine Fw.s (Fw.val_build (ps := []) rfl (bu32_)) rfl ?_
        refine Fw.gT (d := 83) rfl rfl ?_
        refine Fw.s (Fw.Val.T (Fw.val_bin rfl rfl (Fw.b_eqlA eq32 Us.zero.headI Us.zero.headI rfl rfl)) (by rfl)) rfl ?_
        refine Fw.s (Fw.val_pickT rfl rfl) rfl ?_
        refine Fw.s (Fw.val_move rfl) rfl ?_
        refine Fw.gT (d := 88) rfl rfl ?_
        refine Fw.s (Fw.val_move rfl) rfl ?_
        refine Fw.gT (d := 88) rfl rfl ?_
        refine Fw.s (Fw.val_not rfl) rfl ?_
        refine Fw.s (Fw.val_pickT rfl rfl) rfl ?_
        refine Fw.s (Fw.val_move rfl) rfl ?_
        refine Fw.gT (d := 92) rfl rfl ?_
        refine Fw.ldA ag36 rfl (Fw.rdBlk HX11) rfl rfl ?_
        refine Fw.gT (d := 92) rfl rfl ?_
        refine Fw.s (Fw.val_build (ps := []) rfl (bu36_)) rfl ?_
        refine Fw.gT (d := 92) rfl rfl ?_
        refine Fw.s (Fw.Val.T (Fw.val_bin rfl rfl (Fw.b_eqlA eq36 Us.zero.ordI Us.zero.ordI rfl rfl)) (by rfl)) rfl ?_
        refine Fw.s (Fw.val_pickT rfl rfl) rfl ?_
        refine Fw.s (Fw.val_move rfl) rfl ?_
        refine Fw.gT (d := 97) rfl rfl ?_
        refine Fw.s (Fw.val_move rfl) rfl ?_
        refine Fw.gT (d := 97) rfl rfl ?_
        refine Fw.s (Fw.val_move rfl) rfl ?_
        refine Fw.gT (d := 97) rfl rfl ?_
        refine Fw.call cf14 rfl rfl (same_any _ w.heap.size p g cf.length (Us.newL cf) AM cM HR HM (by rw [Us.newL_len]; exact hle)) ?_
        rintro e_ w10 ⟨rfl, hb⟩
        refine ⟨_, rfl, ?_⟩
        replace HR := HR.low hb
        replace HM := HM.low hb
        replace HX9 := HX9.low hb
        replace HX11 := HX11.low hb
        replace HB := HB.trans (hb.mono HB.size)
        clear hb
        refine Fw.bT (by rfl) ?_
        refine Fw.s (Fw.val_pickT rfl rfl) rfl ?_
        refine Fw.s (Fw.val_assign rfl) rfl ?_
        refine Fw.nil ?_
        refine hK15 _ _ (Fw.FC.sub (f' := [(4, _)]) (.cons rfl .nil) ?_)
        refine Fw.ret ?_
        refine Fw.ret_ [.tmp 4] [_] Try.results3 (.tmp rfl .nil) ?_
        exact ⟨rfl, HB⟩
      · rintro hid
        refine Fw.s (Fw.val_move rfl) rfl ?_
        refine Fw.gF (d := 56) rfl rfl rfl rfl ?_
        refine Fw.gF (d := 56) rfl rfl rfl rfl ?_
        refine Fw.gF (d := 56) rfl rfl rfl rfl ?_
        refine Fw.gF (d := 56) rfl rfl rfl rfl ?_
        refine Fw.s (Fw.val_pickF rfl rfl) rfl ?_
        refine Fw.nil ?_
        refine hK13 _ _ (Fw.FC.sub (f' := [(61, _), (12, _), (11, _), (10, _), (9, _), (7, _), (5, _), (1, _)]) (.cons rfl (.cons rfl (.cons rfl (.cons rfl (.cons rfl (.cons rfl (.cons rfl (.cons rfl .nil)))))))) ?_)
        refine Fw.condF rfl ?_
        refine Fw.skip ?_
        refine hK12 _ _ ?_
        refine Fw.seq fun _ hK16 => ?_
        refine Fw.region ?_
        refine Fw.s (Fw.val_move rfl) rfl ?_
        refine Fw.s (Fw.val_not rfl) rfl ?_
        refine Fw.s (Fw.val_move rfl) rfl ?_
        refine Fw.gT (d := 83) rfl rfl ?_
        refine Fw.ldA ag32 rfl (Fw.rdBlk HX9) rfl rfl ?_
        refine Fw.gT (d := 83) rfl rfl ?_
        refine Fw.s (Fw.val_build (ps := []) rfl (bu32_)) rfl ?_
        refine Fw.gT (d := 83) rfl rfl ?_
        refine Fw.s (Fw.Val.T (Fw.val_bin rfl rfl (Fw.b_eqlA eq32 Us.zero.headI Us.zero.headI rfl rfl)) (by rfl)) rfl ?_
        refine Fw.s (Fw.val_pickT rfl rfl) rfl ?_
        refine Fw.s (Fw.val_move rfl) rfl ?_
        refine Fw.gT (d := 88) rfl rfl ?_
        refine Fw.s (Fw.val_move rfl) rfl ?_
        refine Fw.gT (d := 88) rfl rfl ?_
        refine Fw.s (Fw.val_not rfl) rfl ?_
        refine Fw.s (Fw.val_pickT rfl rfl) rfl ?_
        refine Fw.s (Fw.val_move rfl) rfl ?_
        refine Fw.gT (d := 92) rfl rfl ?_
        refine Fw.ldA ag36 rfl (Fw.rdBlk HX11) rfl rfl ?_
        refine Fw.gT (d := 92) rfl rfl ?_
        refine Fw.s (Fw.val_build (ps := []) rfl (bu36_)) rfl ?_
        refine Fw.gT (d := 92) rfl rfl ?_
        refine Fw.s (Fw.Val.T (Fw.val_bin rfl rfl (Fw.b_eqlA eq36 Us.zero.ordI Us.zero.ordI rfl rfl)) (by rfl)) rfl ?_
        refine Fw.s (Fw.val_pickT rfl rfl) rfl ?_
        refine Fw.s (Fw.val_move rfl) rfl ?_
        refine Fw.gT (d := 97) rfl rfl ?_
        refine Fw.s (Fw.val_move rfl) rfl ?_
        refine Fw.gT (d := 97) rfl rfl ?_
        refine Fw.s (Fw.val_move rfl) rfl ?_
        refine Fw.gT (d := 97) rfl rfl ?_
        refine Fw.call cf14 rfl rfl (same_any _ w.heap.size p g cf.length (Us.newL cf) AM cM HR HM (by rw [Us.newL_len]; exact hle)) ?_
        rintro e_ w11 ⟨rfl, hb⟩
        refine ⟨_, rfl, ?_⟩
        replace HR := HR.low hb
        replace HM := HM.low hb
        replace HX9 := HX9.low hb
        replace HX11 := HX11.low hb
        replace HB := HB.trans (hb.mono HB.size)
        clear hb
        refine Fw.bT (by rfl) ?_
        refine Fw.s (Fw.val_pickT rfl rfl) rfl ?_
        refine Fw.s (Fw.val_assign rfl) rfl ?_
        refine Fw.nil ?_
        refine hK16 _ _ (Fw.FC.sub (f' := [(4, _)]) (.cons rfl .nil) ?_)
        refine Fw.ret ?_
        refine Fw.ret_ [.tmp 4] [_] Try.results3 (.tmp rfl .nil) ?_
        exact ⟨rfl, HB⟩
  · skip
    refine Fw.calls Try.func3 rfl Try.ntmps3 rfl ?_
    have HB := Below.refl (w.heap.size) w
    refine Fw.seq fun _ hK1 => ?_
    refine Fw.region ?_
    refine Fw.s (Fw.val_assign rfl) rfl ?_
    refine Fw.nil ?_
    refine hK1 _ _ ?_
    refine Fw.seq fun _ hK2 => ?_
    refine Fw.seq fun _ hK3 => ?_
    refine Fw.region ?_
    refine Fw.call cf9 rfl rfl (wakes_any _) ?_
    rintro e_ w1 ⟨rfl, hb⟩
    refine ⟨_, rfl, ?_⟩
    replace HB := HB.trans (hb.mono HB.size)
    clear hb
    refine Fw.bT (by rfl) ?_
    refine Fw.s (Fw.val_not rfl) rfl ?_
    refine Fw.nil ?_
    refine hK3 _ _ ?_
    refine Fw.condF rfl ?_
    refine Fw.skip ?_
    refine hK2 _ _ ?_
    refine Fw.seq fun _ hK4 => ?_
    refine Fw.seq fun _ hK5 => ?_
    refine Fw.region ?_
    refine Fw.s (Fw.val_move rfl) rfl ?_
    refine Fw.s (Fw.val_len Try.underlying22 rfl) rfl ?_
    refine Fw.s2 (Fw.val_bin rfl rfl Fw.b_gtr) rfl ?_ ?_
    · rintro hbig
      refine Fw.nil ?_
      refine hK5 _ _ ?_
      refine Fw.condT rfl ?_
      refine Fw.seq fun _ hK7 => ?_
      refine Fw.region ?_
      refine Fw.s (Fw.val_assign rfl) rfl ?_
      refine Fw.nil ?_
      refine hK7 _ _ (Fw.FC.sub (f' := [(4, _)]) (.cons rfl .nil) ?_)
      refine Fw.ret ?_
      refine Fw.X_ret ?_
      refine Fw.ret_ [.tmp 4] [_] Try.results3 (.tmp rfl .nil) ?_
      exact ⟨rfl, HB⟩
    · rintro hbig
      refine Fw.nil ?_
      refine hK5 _ _ ?_
      refine Fw.condF rfl ?_
      refine Fw.skip ?_
      refine hK4 _ _ ?_
      refine Fw.seq fun _ hK8 => ?_
      refine Fw.region ?_
      refine Fw.s (Fw.val_move rfl) rfl ?_
      refine Fw.call cf10 rfl rfl (new_any _ A cf c0 (h.low HB)) ?_
      rintro e_ w2 ⟨x, rfl, hx1, -, hb⟩
      refine ⟨_, rfl, ?_⟩
      replace HB := HB.trans (hb.mono HB.size)
      clear hb
      obtain rfl := hx1 hE
      refine Fw.s (Fw.val_move rfl) rfl ?_
      refine Fw.s (Fw.val_extract rfl rfl) rfl ?_
      refine Fw.s (Fw.val_extract rfl rfl) rfl ?_
      refine Fw.s (Fw.val_assign rfl) rfl ?_
      refine Fw.s (Fw.val_assign rfl) rfl ?_
      refine Fw.nil ?_
      refine hK8 _ _ (Fw.FC.sub (f' := [(6, _), (5, _), (0, _), (1, _)]) (.cons rfl (.cons rfl (.cons rfl (.cons rfl .nil)))) ?_)
      refine Fw.seq fun _ hK9 => ?_
      refine Fw.region ?_
      refine Fw.s (Fw.val_move rfl) rfl ?_
      refine Fw.call cf11 rfl rfl (rnew_any _ A cf c0 (h.low HB)) ?_
      rintro e_ w3 ⟨AM, cM, r, rfl, -, hz, hb⟩
      refine ⟨_, rfl, ?_⟩
      replace HB := HB.trans (hb.mono HB.size)
      clear hb
      refine Fw.s (Fw.val_move rfl) rfl ?_
      refine Fw.s (Fw.val_extract rfl rfl) rfl ?_
      refine Fw.s (Fw.val_extract rfl rfl) rfl ?_
      refine Fw.s (Fw.val_assign rfl) rfl ?_
      refine Fw.s (Fw.val_assign rfl) rfl ?_
      refine Fw.nil ?_
      refine hK9 _ _ ?_
      refine Fw.seq fun _ hK10 => ?_
      refine Fw.seq fun _ hK11 => ?_
      refine Fw.region ?_
      refine Fw.s (Fw.val_move rfl) rfl ?_
      refine Fw.s (Fw.val_move rfl) rfl ?_
      refine Fw.s (Fw.Val.F (Fw.val_bin rfl rfl Fw.b_neq) (by simp)) rfl ?_
      refine Fw.s (Fw.val_move rfl) rfl ?_
      refine Fw.gT (d := 31) rfl rfl ?_
      refine Fw.s (Fw.val_move rfl) rfl ?_
      refine Fw.gT (d := 31) rfl rfl ?_
      refine Fw.s (Fw.Val.T (Fw.val_bin rfl rfl Fw.b_neq) (by exact hE)) rfl ?_
      refine Fw.s (Fw.val_pickF rfl rfl) rfl ?_
      refine Fw.nil ?_
      refine hK11 _ _ (Fw.FC.sub (f' := [(34, _), (8, _), (7, _), (6, _), (5, _), (0, _), (1, _)]) (.cons rfl (.cons rfl (.cons rfl (.cons rfl (.cons rfl (.cons rfl (.cons rfl .nil))))))) ?_)
      refine Fw.condT rfl ?_
      refine Fw.seq fun _ hK12 => ?_
      refine Fw.region ?_
      refine Fw.s (Fw.val_move rfl) rfl ?_
      refine Fw.s (Fw.val_move rfl) rfl ?_
      refine Fw.s (Fw.Val.T (Fw.val_bin rfl rfl Fw.b_eql) (by rfl)) rfl ?_
      refine Fw.s (Fw.val_move rfl) rfl ?_
      refine Fw.gT (d := 38) rfl rfl ?_
      refine Fw.s (Fw.val_move rfl) rfl ?_
      refine Fw.gT (d := 38) rfl rfl ?_
      refine Fw.s (Fw.val_bin rfl rfl (Fw.b_nilP Try.underlying24)) rfl ?_
      refine Fw.s (Fw.val_pickT rfl rfl) rfl ?_
      refine Fw.s (Fw.val_assign rfl) rfl ?_
      refine Fw.nil ?_
      refine hK12 _ _ (Fw.FC.sub (f' := [(4, _)]) (.cons rfl .nil) ?_)
      refine Fw.ret ?_
      refine Fw.X_ret ?_
      refine Fw.ret_ [.tmp 4] [_] Try.results3 (.tmp rfl .nil) ?_
      exact ⟨rfl, HB⟩

end Go.Proofs.Ytmohhociomghhaa
