/- Layer 27: the law of exclusive assignment. -/
import Derived.Test.YtmohhociomghhaaUsZ
namespace Go.Proofs.Ytmohhociomghhaa
set_option linter.unusedSimpArgs false
set_option linter.unusedVariables false
open Go.RowKit

namespace Us
/-- what the law looks at, for one unit before and after one action -/
theorem excl {a : Act} {l : List U} (hg : Good l) (ha : 0 ≤ a.k) (i : Nat) (h1 : i < l.length) (h2 : i < (doL a l).length) :
    ((doL a l)[i].state = 1 → (doL a l)[i].ack = (doL a l)[i].ep ∧ (doL a l)[i].inc = 0) ∧ (l[i].inc = 0 → (doL a l)[i].inc ≠ 0 → l[i].state = 1) ∧ (l[i].inc ≠ 0 → (doL a l)[i].inc ≠ 0 → (doL a l)[i].inc ≠ l[i].inc → a.k.tmod 6 = 5) ∧ l[i].ep ≤ (doL a l)[i].ep ∧ l[i].seq ≤ (doL a l)[i].seq ∧ l[i].ack ≤ (doL a l)[i].ack ∧ (doL a l)[i].ack ≤ (doL a l)[i].ep := by
  obtain ⟨u, hu, hs⟩ := step_do a l i _ (List.getElem?_eq_getElem h2)
  rw [List.getElem?_eq_getElem h1] at hu
  injection hu with hu; subst hu
  have hi := (hg i _ (List.getElem?_eq_getElem h1)).1
  obtain ⟨j1, j2, j3, j4⟩ := hs.inv hi
  obtain ⟨k1, k2⟩ := hs.inc hi
  refine ⟨j1.st, k1, fun x y z => ?_, j2, j3, j4, j1.ack⟩
  have := k2 x y z
  have h6 := Int.tmod_eq_emod_of_nonneg (b := 6) ha
  omega
end Us
set_option maxRecDepth 100000 in
set_option maxHeartbeats 1000000 in
theorem exclusive_any (w : World) (A : Option Addr) (cf : List Us.Cfg) (c0 : Nat) (A2 : Option Addr) (acts : List Us.Act) (c2 : Nat) (h : Rd w A (cf.flatMap Us.Cfg.cells)) (h2 : Rd w A2 (acts.flatMap Us.Act.cells)) (hak : ∀ a ∈ acts, 0 ≤ a.k) : Calls Try.prog 4 #[.slice A cf.length c0, .slice A2 acts.length c2] w fun e_ w' => e_ = .returned (.bool true) ∧ Below w.heap.size w w' := by
  by_cases hE : Us.newE cf = 0
  · skip
    refine Fw.calls Try.func4 rfl Try.ntmps4 rfl ?_
    have HB := Below.refl (w.heap.size) w
    refine Fw.seq fun _ hK1 => ?_
    refine Fw.region ?_
    refine Fw.s (Fw.val_assign rfl) rfl ?_
    refine Fw.nil ?_
    refine hK1 _ _ ?_
    refine Fw.seq fun _ hK2 => ?_
    refine Fw.seq fun _ hK3 => ?_
    refine Fw.region ?_
    refine Fw.call cf9 rfl rfl (wakes_any _) ?_
    rintro e_ w1 ⟨rfl, hb⟩
    refine ⟨_, rfl, ?_⟩
    replace HB := HB.trans (hb.mono HB.size)
    clear hb
    refine Fw.bT (by rfl) ?_
    refine Fw.s (Fw.val_not rfl) rfl ?_
    refine Fw.nil ?_
    refine hK3 _ _ ?_
    refine Fw.condF rfl ?_
    refine Fw.skip ?_
    refine hK2 _ _ ?_
    refine Fw.seq fun _ hK4 => ?_
    refine Fw.seq fun _ hK5 => ?_
    refine Fw.region ?_
    refine Fw.s (Fw.val_move rfl) rfl ?_
    refine Fw.s (Fw.val_len Try.underlying22 rfl) rfl ?_
    refine Fw.s2 (Fw.val_bin rfl rfl Fw.b_gtr) rfl ?_ ?_
    · rintro hn1
      refine Fw.s (Fw.val_move rfl) rfl ?_
      refine Fw.gF (d := 19) rfl rfl rfl rfl ?_
      refine Fw.gF (d := 19) rfl rfl rfl rfl ?_
      refine Fw.gF (d := 19) rfl rfl rfl rfl ?_
      refine Fw.s (Fw.val_pickT rfl rfl) rfl ?_
      refine Fw.nil ?_
      refine hK5 _ _ (Fw.FC.sub (f' := [(23, _), (0, _), (1, _)]) (.cons rfl (.cons rfl (.cons rfl .nil))) ?_)
      refine Fw.condT rfl ?_
      refine Fw.seq fun _ hK7 => ?_
      refine Fw.region ?_
      refine Fw.s (Fw.val_assign rfl) rfl ?_
      refine Fw.nil ?_
      refine hK7 _ _ ?_
      refine Fw.ret ?_
      refine Fw.X_ret ?_
      refine Fw.ret_ [.tmp 4] [_] Try.results4 (.tmp rfl .nil) ?_
      exact ⟨rfl, HB⟩
    · rintro hn1
      refine Fw.s (Fw.val_move rfl) rfl ?_
      refine Fw.gT (d := 19) rfl rfl ?_
      refine Fw.s (Fw.val_move rfl) rfl ?_
      refine Fw.gT (d := 19) rfl rfl ?_
      refine Fw.s (Fw.val_len Try.underlying43 rfl) rfl ?_
      refine Fw.gT (d := 19) rfl rfl ?_
      refine Fw.s2 (Fw.val_bin rfl rfl Fw.b_gtr) rfl ?_ ?_
      · rintro hn2
        refine Fw.s (Fw.val_pickF rfl rfl) rfl ?_
        refine Fw.nil ?_
        refine hK5 _ _ (Fw.FC.sub (f' := [(23, _), (0, _), (1, _)]) (.cons rfl (.cons rfl (.cons rfl .nil))) ?_)
        refine Fw.condT rfl ?_
        refine Fw.seq fun _ hK9 => ?_
        refine Fw.region ?_
        refine Fw.s (Fw.val_assign rfl) rfl ?_
        refine Fw.nil ?_
        refine hK9 _ _ ?_
        refine Fw.ret ?_
        refine Fw.X_ret ?_
        refine Fw.ret_ [.tmp 4] [_] Try.results4 (.tmp rfl .nil) ?_
        exact ⟨rfl, HB⟩
      · rintro hn2
        refine Fw.s (Fw.val_pickF rfl rfl) rfl ?_
        refine Fw.nil ?_
        refine hK5 _ _ (Fw.FC.sub (f' := [(23, _), (0, _), (1, _)]) (.cons rfl (.cons rfl (.cons rfl .nil))) ?_)
        refine Fw.condF rfl ?_
        refine Fw.skip ?_
        refine hK4 _ _ ?_
        refine Fw.seq fun _ hK10 => ?_
        refine Fw.region ?_
        refine Fw.s (Fw.val_move rfl) rfl ?_
        refine Fw.call cf10 rfl rfl (new_any _ A cf c0 (h.low HB)) ?_
        rintro e_ w2 ⟨x, rfl, -, hx2, hb⟩
        refine ⟨_, rfl, ?_⟩
        have hs0 := HB.size
        replace HB := HB.trans (hb.mono HB.size)
        clear hb
        obtain ⟨p, g, rfl, HR⟩ := hx2 hE
        replace HR := HR.mono hs0
        have lp := HR.1
        have lg := HR.2.1
        rw [hE]
        refine Fw.s (Fw.val_move rfl) rfl ?_
        refine Fw.s (Fw.val_extract rfl rfl) rfl ?_
        refine Fw.s (Fw.val_extract rfl rfl) rfl ?_
        refine Fw.s (Fw.val_assign rfl) rfl ?_
        refine Fw.s (Fw.val_assign rfl) rfl ?_
        refine Fw.nil ?_
        refine hK10 _ _ (Fw.FC.sub (f' := [(6, _), (5, _), (1, _)]) (.cons rfl (.cons rfl (.cons rfl .nil))) ?_)
        refine Fw.seq fun _ hK11 => ?_
        refine Fw.seq fun _ hK12 => ?_
        refine Fw.region ?_
        refine Fw.s (Fw.val_move rfl) rfl ?_
        refine Fw.s (Fw.Val.F (Fw.val_bin rfl rfl Fw.b_neq) (by decide)) rfl ?_
        refine Fw.s (Fw.val_move rfl) rfl ?_
        refine Fw.gT (d := 31) rfl rfl ?_
        refine Fw.s (Fw.val_move rfl) rfl ?_
        refine Fw.gT (d := 31) rfl rfl ?_
        refine Fw.s (Fw.val_bin rfl rfl (Fw.b_nilP Try.underlying24)) rfl ?_
        refine Fw.s (Fw.val_pickF rfl rfl) rfl ?_
        refine Fw.nil ?_
        refine hK12 _ _ ?_
        refine Fw.condF rfl ?_
        refine Fw.skip ?_
        refine hK11 _ _ (Fw.FC.sub (f' := [(5, _), (1, _)]) (.cons rfl (.cons rfl .nil)) ?_)
        refine Fw.seq fun _ hK13 => ?_
        refine Fw.seq fun _ hK14 => ?_
        refine Fw.region ?_
        refine Fw.s (Fw.val_move rfl) rfl ?_
        refine Fw.s (Fw.val_len Try.underlying43 rfl) rfl ?_
        refine Fw.s (Fw.val_move rfl) rfl ?_
        refine Fw.nil ?_
        refine hK14 _ _ ?_
        refine Fw.block ?_
        replace HR : RegAt w2 w.heap.size p g cf.length (Us.playL (Us.newL cf) (acts.take 0)) := HR
        have hle : cf.length ≤ 256 := by omega
        refine Fw.loop (fun m_ f_ W_ => ∃ (k : Nat), m_ = acts.length - k ∧ k ≤ acts.length ∧ RegAt W_ w.heap.size p g cf.length (Us.playL (Us.newL cf) (acts.take k)) ∧ Below (w.heap.size) w W_ ∧ f_ = [(37, .int .i64 k), (36, .int .i64 acts.length), (35, .slice A2 acts.length c2), (5, .pointer (some ⟨p, 0, none⟩))]) ⟨_, _, ⟨0, rfl, Nat.zero_le _, HR, HB, rfl⟩, (.cons rfl (.cons rfl (.cons rfl (.cons rfl .nil))))⟩ ?_
        clear HR HB
        rintro m15_ _ w3 ⟨k, hm15_, hkl, HR, HB, rfl⟩
        refine Fw.seq fun _ hK16 => ?_
        refine Fw.region ?_
        refine Fw.s2 (Fw.val_bin rfl rfl Fw.b_lss) rfl ?_ ?_
        · rintro hk
          refine Fw.nil ?_
          refine hK16 _ _ ?_
          refine Fw.seq fun _ hK18 => ?_
          refine Fw.condT rfl ?_
          refine Fw.skip ?_
          refine hK18 _ _ ?_
          refine Fw.seq fun _ hK19 => ?_
          refine Fw.block ?_
          refine Fw.seq fun _ hK20 => ?_
          have hkn : k < acts.length := by omega
          obtain ⟨ad, b_, o, hA, hadd, HE⟩ := Fw.rdAt Us.Act.len (by decide) (h2.low HB) k hkn
          have hG := (Us.good_new hE).play (acts.take k)
          have hka := hak acts[k] (List.getElem_mem hkn)
          refine Fw.region ?_
          refine Fw.s (Fw.val_indexR Try.underlying43 sz47 rfl hA rfl rfl hkn hadd) rfl ?_
          refine Fw.ldA ag47 rfl (HE) rfl rfl ?_
          refine Fw.alloc ze47 rfl ?_
          intro w4 gXa egXa HXa hb
          have fr_HR_gXa := HR.fresh egXa
          have lgXa : w.heap.size ≤ gXa := by have := HB.size; omega
          clear HE
          replace HR := HR.low hb
          replace HB := HB.trans (hb.mono HB.size)
          clear hb
          clear egXa
          refine Fw.storeW sz47 rfl rfl HXa rfl rfl (by exact Fw.oneCells rfl) ?_
          intro w5 N_ hc
          replace HR := HR.chg hc fr_HR_gXa.1 fr_HR_gXa.2
          replace HB := HB.trans (hc.below (B := w.heap.size) (fun k e => by omega) HB.size)
          clear hc
          clear HXa
          have HXa := N_
          clear N_
          refine Fw.nil ?_
          refine hK20 _ _ ?_
          refine Fw.seq fun _ hK22 => ?_
          refine Fw.region ?_
          refine Fw.s (Fw.val_move rfl) rfl ?_
          refine Fw.call cf15 rfl rfl (all_any w5 w.heap.size p g cf.length (Us.playL (Us.newL cf) (acts.take k)) HR (by simp only [Us.doL_len, Us.playL_len, Us.newL_len]; exact hle)) ?_
          rintro e_ w6 ⟨AO1, cO1, rfl, HO1, hb⟩
          refine ⟨_, rfl, ?_⟩
          have hlg1 := HR.lt
          replace HR := HR.low hb
          replace HXa := HXa.low hb
          replace HB := HB.trans (hb.mono HB.size)
          clear hb
          have ng_HO1 : ∀ g_, AO1.map (·.block) = some g_ → g_ ≠ g := fun g_ h_ e_ => by have := (HO1.lt g_ (by rw [ownBlock_slice]; exact h_)).1; omega
          refine Fw.s (Fw.val_assign rfl) rfl ?_
          refine Fw.nil ?_
          refine hK22 _ _ ?_
          refine Fw.seq fun _ hK23 => ?_
          refine Fw.region ?_
          refine Fw.s (Fw.val_move rfl) rfl ?_
          refine Fw.ldA ag47 rfl (Fw.rdBlk HXa) rfl rfl ?_
          refine Fw.call cf16 rfl rfl (do_any _ w.heap.size p g cf.length (Us.playL (Us.newL cf) (acts.take k)) none 0 [] acts[k] HR (Fw.RdT.nil _ _) (fun i hi => by cases hi) (by rw [Us.playL_len, Us.newL_len]; exact hle) (Nat.zero_le _)) ?_
          rintro e_ w7 ⟨A1, cc1, b, rfl, -, -, HR2, hc⟩
          refine ⟨_, rfl, ?_⟩
          replace HXa := HXa.chg hc (by omega)
          replace HO1 := own_to HO1 hc (fun g_ h_ e_ => ng_HO1 g_ h_ e_)
          replace HB := HB.trans (hc.below (B := w.heap.size) (fun k e => by omega) HB.size)
          clear hc
          clear HR
          have HR := HR2
          clear HR2
          refine Fw.nil ?_
          refine hK23 _ _ (Fw.FC.sub (f' := [(9, _), (8, _), (37, _), (36, _), (35, _), (5, _)]) (.cons rfl (.cons rfl (.cons rfl (.cons rfl (.cons rfl (.cons rfl .nil)))))) ?_)
          refine Fw.seq fun _ hK24 => ?_
          refine Fw.region ?_
          refine Fw.s (Fw.val_move rfl) rfl ?_
          refine Fw.call cf15 rfl rfl (all_any w7 w.heap.size p g cf.length (Us.doL acts[k] (Us.playL (Us.newL cf) (acts.take k))) HR (by simp only [Us.doL_len, Us.playL_len, Us.newL_len]; exact hle)) ?_
          rintro e_ w8 ⟨AO2, cO2, rfl, HO2, hb⟩
          refine ⟨_, rfl, ?_⟩
          have hlg2 := HR.lt
          replace HR := HR.low hb
          replace HXa := HXa.low hb
          replace HO1 := own_below HO1 hb (Nat.le_refl _)
          replace HB := HB.trans (hb.mono HB.size)
          clear hb
          have ng_HO2 : ∀ g_, AO2.map (·.block) = some g_ → g_ ≠ g := fun g_ h_ e_ => by have := (HO2.lt g_ (by rw [ownBlock_slice]; exact h_)).1; omega
          refine Fw.s (Fw.val_assign rfl) rfl ?_
          refine Fw.nil ?_
          refine hK24 _ _ ?_
          refine Fw.seq fun _ hK25 => ?_
          refine Fw.seq fun _ hK26 => ?_
          refine Fw.region ?_
          refine Fw.s (Fw.val_move rfl) rfl ?_
          refine Fw.s (Fw.val_len Try.underlying48 rfl) rfl ?_
          refine Fw.s (Fw.val_move rfl) rfl ?_
          refine Fw.s (Fw.val_len Try.underlying48 rfl) rfl ?_
          refine Fw.s (Fw.Val.F (Fw.val_bin rfl rfl Fw.b_neq) (by simp [Us.doL_len])) rfl ?_
          refine Fw.nil ?_
          refine hK26 _ _ ?_
          refine Fw.condF rfl ?_
          refine Fw.skip ?_
          refine hK25 _ _ (Fw.FC.sub (f' := [(10, _), (9, _), (8, _), (37, _), (36, _), (35, _), (5, _)]) (.cons rfl (.cons rfl (.cons rfl (.cons rfl (.cons rfl (.cons rfl (.cons rfl .nil))))))) ?_)
          refine Fw.seq fun _ hK27 => ?_
          refine Fw.region ?_
          refine Fw.s (Fw.val_move rfl) rfl ?_
          refine Fw.s (Fw.val_len Try.underlying48 rfl) rfl ?_
          refine Fw.s (Fw.val_move rfl) rfl ?_
          refine Fw.nil ?_
          refine hK27 _ _ ?_
          refine Fw.block ?_
          have hdl := Us.doL_len acts[k] (Us.playL (Us.newL cf) (acts.take k))
          have hdl2 : (Us.doL acts[k] (Us.playL (Us.newL cf) (acts.take k))).length ≤ 256 := by simp only [Us.doL_len, Us.playL_len, Us.newL_len]; exact hle
          refine Fw.loop (fun m_ f_ W_ => ∃ (j : Nat), m_ = (Us.doL acts[k] (Us.playL (Us.newL cf) (acts.take k))).length - j ∧ j ≤ (Us.doL acts[k] (Us.playL (Us.newL cf) (acts.take k))).length ∧ RegAt W_ w.heap.size p g cf.length (Us.doL acts[k] (Us.playL (Us.newL cf) (acts.take k))) ∧ Blk W_ gXa 47 (Us.Act.cells acts[k]).toArray ∧ W_.ownsRow w5.heap.size 32 10 (.slice AO1 (Us.playL (Us.newL cf) (acts.take k)).length cO1) (Us.playL (Us.newL cf) (acts.take k)).length ((Us.playL (Us.newL cf) (acts.take k)).flatMap Us.U.head) ∧ W_.ownsRow w7.heap.size 32 10 (.slice AO2 (Us.doL acts[k] (Us.playL (Us.newL cf) (acts.take k))).length cO2) (Us.doL acts[k] (Us.playL (Us.newL cf) (acts.take k))).length ((Us.doL acts[k] (Us.playL (Us.newL cf) (acts.take k))).flatMap Us.U.head) ∧ Below (w.heap.size) w W_ ∧ f_ = [(55, .int .i64 j), (54, .int .i64 (Us.doL acts[k] (Us.playL (Us.newL cf) (acts.take k))).length), (53, .slice AO2 (Us.doL acts[k] (Us.playL (Us.newL cf) (acts.take k))).length cO2), (9, .slice AO1 (Us.playL (Us.newL cf) (acts.take k)).length cO1), (8, .pointer (some ⟨gXa, 0, none⟩)), (37, .int .i64 k), (36, .int .i64 acts.length), (35, .slice A2 acts.length c2), (5, .pointer (some ⟨p, 0, none⟩))]) ⟨_, _, ⟨0, rfl, Nat.zero_le _, HR, HXa, HO1, HO2, HB, rfl⟩, (.cons rfl (.cons rfl (.cons rfl (.cons rfl (.cons rfl (.cons rfl (.cons rfl (.cons rfl (.cons rfl .nil)))))))))⟩ ?_
          clear HR HXa HO1 HO2 HB
          rintro m28_ _ w9 ⟨j, hm28_, hjl, HR, HXa, HO1, HO2, HB, rfl⟩
          refine Fw.seq fun _ hK29 => ?_
          refine Fw.region ?_
          refine Fw.s2 (Fw.val_bin rfl rfl Fw.b_lss) rfl ?_ ?_
          · rintro hj
            refine Fw.nil ?_
            refine hK29 _ _ ?_
            refine Fw.seq fun _ hK31 => ?_
            refine Fw.condT rfl ?_
            refine Fw.skip ?_
            refine hK31 _ _ ?_
            refine Fw.seq fun _ hK32 => ?_
            refine Fw.block ?_
            refine Fw.seq fun _ hK33 => ?_
            have hjn : j < (Us.doL acts[k] (Us.playL (Us.newL cf) (acts.take k))).length := by omega
            have hjn2 : j < (Us.playL (Us.newL cf) (acts.take k)).length := by omega
            obtain ⟨ad3, b3, o3, hA3, hadd3, HE3⟩ := Fw.rdAt Us.U.hlen (by decide) (Rd.of_own HO2) j hjn
            obtain ⟨x1, x2, x3, x4, x5, x6, x7⟩ := Us.excl hG hka j hjn2 hjn
            refine Fw.region ?_
            refine Fw.s (Fw.val_move rfl) rfl ?_
            refine Fw.s (Fw.val_indexR Try.underlying48 sz32 rfl hA3 rfl rfl hjn hadd3) rfl ?_
            refine Fw.ldA ag32 rfl (HE3) rfl rfl ?_
            refine Fw.alloc ze32 rfl ?_
            intro w10 gXu egXu HXu hb
            have fr_HR_gXu := HR.fresh egXu
            have fr_HO1_gXu := own_fresh HO1 egXu
            have fr_HO2_gXu := own_fresh HO2 egXu
            have n_gXa_gXu : gXa < gXu := by have := HXa.lt; omega
            have lgXu : w.heap.size ≤ gXu := by have := HB.size; omega
            clear HE3
            replace HR := HR.low hb
            replace HXa := HXa.low hb
            replace HO1 := own_below HO1 hb (Nat.le_refl _)
            replace HO2 := own_below HO2 hb (Nat.le_refl _)
            replace HB := HB.trans (hb.mono HB.size)
            clear hb
            clear egXu
            refine Fw.s (Fw.val_assign rfl) rfl ?_
            refine Fw.storeW sz32 rfl rfl HXu rfl rfl (by exact Fw.oneCells rfl) ?_
            intro w11 N_ hc
            replace HR := HR.chg hc fr_HR_gXu.1 fr_HR_gXu.2
            replace HXa := HXa.chg hc (by omega)
            replace HO1 := own_to HO1 hc (fun g_ h_ e_ => fr_HO1_gXu (by rw [h_, e_]))
            replace HO2 := own_to HO2 hc (fun g_ h_ e_ => fr_HO2_gXu (by rw [h_, e_]))
            replace HB := HB.trans (hc.below (B := w.heap.size) (fun k e => by omega) HB.size)
            clear hc
            clear HXu
            have HXu := N_
            clear N_
            refine Fw.nil ?_
            refine hK33 _ _ ?_
            refine Fw.seq fun _ hK35 => ?_
            obtain ⟨ad2, b2, o2, hA2, hadd2, HE2⟩ := Fw.rdAt Us.U.hlen (by decide) (Rd.of_own HO1) j hjn2
            refine Fw.region ?_
            refine Fw.s (Fw.val_move rfl) rfl ?_
            refine Fw.s (Fw.val_move rfl) rfl ?_
            refine Fw.s (Fw.val_indexR Try.underlying48 sz32 rfl hA2 rfl rfl hjn2 hadd2) rfl ?_
            refine Fw.ldA ag32 rfl (HE2) rfl rfl ?_
            refine Fw.alloc ze32 rfl ?_
            intro w12 gXw egXw HXw hb
            have fr_HR_gXw := HR.fresh egXw
            have fr_HO1_gXw := own_fresh HO1 egXw
            have fr_HO2_gXw := own_fresh HO2 egXw
            have n_gXa_gXw : gXa < gXw := by have := HXa.lt; omega
            have n_gXu_gXw : gXu < gXw := by have := HXu.lt; omega
            have lgXw : w.heap.size ≤ gXw := by have := HB.size; omega
            clear HE2
            replace HR := HR.low hb
            replace HXa := HXa.low hb
            replace HO1 := own_below HO1 hb (Nat.le_refl _)
            replace HO2 := own_below HO2 hb (Nat.le_refl _)
            replace HXu := HXu.low hb
            replace HB := HB.trans (hb.mono HB.size)
            clear hb
            clear egXw
            refine Fw.storeW sz32 rfl rfl HXw rfl rfl (by exact Fw.oneCells rfl) ?_
            intro w13 N_ hc
            replace HR := HR.chg hc fr_HR_gXw.1 fr_HR_gXw.2
            replace HXa := HXa.chg hc (by omega)
            replace HO1 := own_to HO1 hc (fun g_ h_ e_ => fr_HO1_gXw (by rw [h_, e_]))
            replace HO2 := own_to HO2 hc (fun g_ h_ e_ => fr_HO2_gXw (by rw [h_, e_]))
            replace HXu := HXu.chg hc (by omega)
            replace HB := HB.trans (hc.below (B := w.heap.size) (fun k e => by omega) HB.size)
            clear hc
            clear HXw
            have HXw := N_
            clear N_
            refine Fw.nil ?_
            refine hK35 _ _ (Fw.FC.sub (f' := [(13, _), (12, _), (55, _), (54, _), (53, _), (9, _), (8, _), (37, _), (36, _), (35, _), (5, _)]) (.cons rfl (.cons rfl (.cons rfl (.cons rfl (.cons rfl (.cons rfl (.cons rfl (.cons rfl (.cons rfl (.cons rfl (.cons rfl .nil))))))))))) ?_)
            refine Fw.seq fun _ hK37 => ?_
            refine Fw.seq fun _ hK38 => ?_
            refine Fw.region ?_
            refine Fw.s (Fw.val_fieldAddr fl32_3 rfl rfl) rfl ?_
            refine Fw.ld sc3 rfl (HXu.cell 3) rfl ?_
            refine Fw.s2 (Fw.val_bin rfl rfl Fw.b_eql) rfl ?_ ?_
            · rintro m0
              refine Fw.s (Fw.val_move rfl) rfl ?_
              refine Fw.gT (d := 67) rfl rfl ?_
              refine Fw.s (Fw.val_fieldAddr fl32_9 rfl rfl) rfl ?_
              refine Fw.gT (d := 67) rfl rfl ?_
              refine Fw.ld sc2 rfl (HXu.cell 9) rfl ?_
              refine Fw.gT (d := 67) rfl rfl ?_
              refine Fw.s (Fw.val_fieldAddr fl32_8 rfl rfl) rfl ?_
              refine Fw.gT (d := 67) rfl rfl ?_
              refine Fw.ld sc2 rfl (HXu.cell 8) rfl ?_
              refine Fw.gT (d := 67) rfl rfl ?_
              refine Fw.s (Fw.Val.F (Fw.val_bin rfl rfl Fw.b_neq) (by omega)) rfl ?_
              refine Fw.s (Fw.val_pickT rfl rfl) rfl ?_
              refine Fw.s (Fw.val_move rfl) rfl ?_
              refine Fw.gT (d := 74) rfl rfl ?_
              refine Fw.s (Fw.val_fieldAddr fl32_3 rfl rfl) rfl ?_
              refine Fw.gT (d := 74) rfl rfl ?_
              refine Fw.ld sc3 rfl (HXu.cell 3) rfl ?_
              refine Fw.gT (d := 74) rfl rfl ?_
              refine Fw.s (Fw.Val.T (Fw.val_bin rfl rfl Fw.b_eql) (by omega)) rfl ?_
              refine Fw.gT (d := 74) rfl rfl ?_
              refine Fw.s (Fw.val_move rfl) rfl ?_
              refine Fw.gT (d := 78) rfl rfl ?_
              refine Fw.s (Fw.val_fieldAddr fl32_7 rfl rfl) rfl ?_
              refine Fw.gT (d := 78) rfl rfl ?_
              refine Fw.ld sc2 rfl (HXu.cell 7) rfl ?_
              refine Fw.gT (d := 78) rfl rfl ?_
              refine Fw.s (Fw.Val.F (Fw.val_bin rfl rfl Fw.b_neq) (by omega)) rfl ?_
              refine Fw.gT (d := 74) rfl rfl ?_
              refine Fw.s (Fw.val_pickT rfl rfl) rfl ?_
              refine Fw.s (Fw.val_pickF rfl rfl) rfl ?_
              refine Fw.nil ?_
              refine hK38 _ _ ?_
              refine Fw.condF rfl ?_
              refine Fw.skip ?_
              refine hK37 _ _ (Fw.FC.sub (f' := [(82, _), (81, _), (80, _), (79, _), (78, _), (77, _), (76, _), (75, _), (72, _), (71, _), (70, _), (69, _), (68, _), (13, _), (12, _), (55, _), (54, _), (53, _), (9, _), (8, _), (37, _), (36, _), (35, _), (5, _)]) (.cons rfl (.cons rfl (.cons rfl (.cons rfl (.cons rfl (.cons rfl (.cons rfl (.cons rfl (.cons rfl (.cons rfl (.cons rfl (.cons rfl (.cons rfl (.cons rfl (.cons rfl (.cons rfl (.cons rfl (.cons rfl (.cons rfl (.cons rfl (.cons rfl (.cons rfl (.cons rfl (.cons rfl .nil)))))))))))))))))))))))) ?_)
              refine Fw.seq fun _ hK40 => ?_
              refine Fw.seq fun _ hK41 => ?_
              refine Fw.region ?_
              refine Fw.s (Fw.val_fieldAddr fl32_7 rfl rfl) rfl ?_
              refine Fw.ld sc2 rfl (HXw.cell 7) rfl ?_
              refine Fw.s2 (Fw.val_bin rfl rfl Fw.b_eql) rfl ?_ ?_
              · rintro m1
                refine Fw.s (Fw.val_move rfl) rfl ?_
                refine Fw.gT (d := 87) rfl rfl ?_
                refine Fw.s (Fw.val_fieldAddr fl32_7 rfl rfl) rfl ?_
                refine Fw.gT (d := 87) rfl rfl ?_
                refine Fw.ld sc2 rfl (HXu.cell 7) rfl ?_
                refine Fw.gT (d := 87) rfl rfl ?_
                refine Fw.s2 (Fw.val_bin rfl rfl Fw.b_neq) rfl ?_ ?_
                · rintro m2
                  refine Fw.s (Fw.val_pickT rfl rfl) rfl ?_
                  refine Fw.s (Fw.val_move rfl) rfl ?_
                  refine Fw.gT (d := 92) rfl rfl ?_
                  refine Fw.s (Fw.val_fieldAddr fl32_3 rfl rfl) rfl ?_
                  refine Fw.gT (d := 92) rfl rfl ?_
                  refine Fw.ld sc3 rfl (HXw.cell 3) rfl ?_
                  refine Fw.gT (d := 92) rfl rfl ?_
                  refine Fw.s (Fw.Val.F (Fw.val_bin rfl rfl Fw.b_neq) (by omega)) rfl ?_
                  refine Fw.s (Fw.val_pickT rfl rfl) rfl ?_
                  refine Fw.nil ?_
                  refine hK41 _ _ ?_
                  refine Fw.condF rfl ?_
                  refine Fw.skip ?_
                  refine hK40 _ _ (Fw.FC.sub (f' := [(95, _), (94, _), (93, _), (90, _), (89, _), (88, _), (82, _), (81, _), (80, _), (79, _), (78, _), (77, _), (76, _), (75, _), (72, _), (71, _), (70, _), (69, _), (68, _), (13, _), (12, _), (55, _), (54, _), (53, _), (9, _), (8, _), (37, _), (36, _), (35, _), (5, _)]) (.cons rfl (.cons rfl (.cons rfl (.cons rfl (.cons rfl (.cons rfl (.cons rfl (.cons rfl (.cons rfl (.cons rfl (.cons rfl (.cons rfl (.cons rfl (.cons rfl (.cons rfl (.cons rfl (.cons rfl (.cons rfl (.cons rfl (.cons rfl (.cons rfl (.cons rfl (.cons rfl (.cons rfl (.cons rfl (.cons rfl (.cons rfl (.cons rfl (.cons rfl (.cons rfl .nil)))))))))))))))))))))))))))))) ?_)
                  refine Fw.seq fun _ hK44 => ?_
                  refine Fw.seq fun _ hK45 => ?_
                  refine Fw.region ?_
                  refine Fw.s (Fw.val_fieldAddr fl32_7 rfl rfl) rfl ?_
                  refine Fw.ld sc2 rfl (HXw.cell 7) rfl ?_
                  refine Fw.s (Fw.Val.F (Fw.val_bin rfl rfl Fw.b_neq) (by omega)) rfl ?_
                  refine Fw.s (Fw.val_move rfl) rfl ?_
                  refine Fw.gF (d := 100) rfl rfl rfl rfl ?_
                  refine Fw.gF (d := 100) rfl rfl rfl rfl ?_
                  refine Fw.gF (d := 100) rfl rfl rfl rfl ?_
                  refine Fw.s (Fw.val_pickF rfl rfl) rfl ?_
                  refine Fw.s (Fw.val_move rfl) rfl ?_
                  refine Fw.gF (d := 105) rfl rfl rfl rfl ?_
                  refine Fw.gF (d := 105) rfl rfl rfl rfl ?_
                  refine Fw.gF (d := 105) rfl rfl rfl rfl ?_
                  refine Fw.gF (d := 105) rfl rfl rfl rfl ?_
                  refine Fw.gF (d := 105) rfl rfl rfl rfl ?_
                  refine Fw.s (Fw.val_pickF rfl rfl) rfl ?_
                  refine Fw.s (Fw.val_move rfl) rfl ?_
                  refine Fw.gF (d := 112) rfl rfl rfl rfl ?_
                  refine Fw.gF (d := 112) rfl rfl rfl rfl ?_
                  refine Fw.gF (d := 112) rfl rfl rfl rfl ?_
                  refine Fw.gF (d := 112) rfl rfl rfl rfl ?_
                  refine Fw.s (Fw.val_pickF rfl rfl) rfl ?_
                  refine Fw.nil ?_
                  refine hK45 _ _ (Fw.FC.sub (f' := [(117, _), (116, _), (115, _), (114, _), (113, _), (110, _), (109, _), (108, _), (107, _), (106, _), (103, _), (102, _), (101, _), (95, _), (94, _), (93, _), (90, _), (89, _), (88, _), (82, _), (81, _), (80, _), (79, _), (78, _), (77, _), (76, _), (75, _), (72, _), (71, _), (70, _), (69, _), (68, _), (13, _), (12, _), (55, _), (54, _), (53, _), (9, _), (8, _), (37, _), (36, _), (35, _), (5, _)]) (.cons rfl (.cons rfl (.cons rfl (.cons rfl (.cons rfl (.cons rfl (.cons rfl (.cons rfl (.cons rfl (.cons rfl (.cons rfl (.cons rfl (.cons rfl (.cons rfl (.cons rfl (.cons rfl (.cons rfl (.cons rfl (.cons rfl (.cons rfl (.cons rfl (.cons rfl (.cons rfl (.cons rfl (.cons rfl (.cons rfl (.cons rfl (.cons rfl (.cons rfl (.cons rfl (.cons rfl (.cons rfl (.cons rfl (.cons rfl (.cons rfl (.cons rfl (.cons rfl (.cons rfl (.cons rfl (.cons rfl (.cons rfl (.cons rfl (.cons rfl .nil))))))))))))))))))))))))))))))))))))))))))) ?_)
                  refine Fw.condF rfl ?_
                  refine Fw.skip ?_
                  refine hK44 _ _ ?_
                  refine Fw.seq fun _ hK46 => ?_
                  refine Fw.region ?_
                  refine Fw.s (Fw.val_fieldAddr fl32_8 rfl rfl) rfl ?_
                  refine Fw.ld sc2 rfl (HXu.cell 8) rfl ?_
                  refine Fw.s (Fw.val_fieldAddr fl32_8 rfl rfl) rfl ?_
                  refine Fw.ld sc2 rfl (HXw.cell 8) rfl ?_
                  refine Fw.s (Fw.Val.F (Fw.val_bin rfl rfl Fw.b_lss) (by omega)) rfl ?_
                  refine Fw.s (Fw.val_move rfl) rfl ?_
                  refine Fw.gT (d := 123) rfl rfl ?_
                  refine Fw.s (Fw.val_fieldAddr fl32_5 rfl rfl) rfl ?_
                  refine Fw.gT (d := 123) rfl rfl ?_
                  refine Fw.ld sc2 rfl (HXu.cell 5) rfl ?_
                  refine Fw.gT (d := 123) rfl rfl ?_
                  refine Fw.s (Fw.val_fieldAddr fl32_5 rfl rfl) rfl ?_
                  refine Fw.gT (d := 123) rfl rfl ?_
                  refine Fw.ld sc2 rfl (HXw.cell 5) rfl ?_
                  refine Fw.gT (d := 123) rfl rfl ?_
                  refine Fw.s (Fw.Val.F (Fw.val_bin rfl rfl Fw.b_lss) (by omega)) rfl ?_
                  refine Fw.s (Fw.val_pickF rfl rfl) rfl ?_
                  refine Fw.s (Fw.val_move rfl) rfl ?_
                  refine Fw.gT (d := 130) rfl rfl ?_
                  refine Fw.s (Fw.val_fieldAddr fl32_9 rfl rfl) rfl ?_
                  refine Fw.gT (d := 130) rfl rfl ?_
                  refine Fw.ld sc2 rfl (HXu.cell 9) rfl ?_
                  refine Fw.gT (d := 130) rfl rfl ?_
                  refine Fw.s (Fw.val_fieldAddr fl32_9 rfl rfl) rfl ?_
                  refine Fw.gT (d := 130) rfl rfl ?_
                  refine Fw.ld sc2 rfl (HXw.cell 9) rfl ?_
                  refine Fw.gT (d := 130) rfl rfl ?_
                  refine Fw.s (Fw.Val.F (Fw.val_bin rfl rfl Fw.b_lss) (by omega)) rfl ?_
                  refine Fw.s (Fw.val_pickF rfl rfl) rfl ?_
                  refine Fw.s (Fw.val_move rfl) rfl ?_
                  refine Fw.gT (d := 137) rfl rfl ?_
                  refine Fw.s (Fw.val_fieldAddr fl32_9 rfl rfl) rfl ?_
                  refine Fw.gT (d := 137) rfl rfl ?_
                  refine Fw.ld sc2 rfl (HXu.cell 9) rfl ?_
                  refine Fw.gT (d := 137) rfl rfl ?_
                  refine Fw.s (Fw.val_fieldAddr fl32_8 rfl rfl) rfl ?_
                  refine Fw.gT (d := 137) rfl rfl ?_
                  refine Fw.ld sc2 rfl (HXu.cell 8) rfl ?_
                  refine Fw.gT (d := 137) rfl rfl ?_
                  refine Fw.s (Fw.Val.F (Fw.val_bin rfl rfl Fw.b_gtr) (by omega)) rfl ?_
                  refine Fw.s (Fw.val_pickF rfl rfl) rfl ?_
                  refine Fw.nil ?_
                  refine hK46 _ _ (Fw.FC.sub (f' := [(143, _), (142, _), (141, _), (140, _), (139, _), (138, _), (135, _), (134, _), (133, _), (132, _), (131, _), (128, _), (127, _), (126, _), (125, _), (124, _), (116, _), (115, _), (114, _), (113, _), (110, _), (109, _), (108, _), (107, _), (106, _), (103, _), (102, _), (101, _), (95, _), (94, _), (93, _), (90, _), (89, _), (88, _), (82, _), (81, _), (80, _), (79, _), (78, _), (77, _), (76, _), (75, _), (72, _), (71, _), (70, _), (69, _), (68, _), (55, _), (54, _), (53, _), (9, _), (8, _), (37, _), (36, _), (35, _), (5, _)]) (.cons rfl (.cons rfl (.cons rfl (.cons rfl (.cons rfl (.cons rfl (.cons rfl (.cons rfl (.cons rfl (.cons rfl (.cons rfl (.cons rfl (.cons rfl (.cons rfl (.cons rfl (.cons rfl (.cons rfl (.cons rfl (.cons rfl (.cons rfl (.cons rfl (.cons rfl (.cons rfl (.cons rfl (.cons rfl (.cons rfl (.cons rfl (.cons rfl (.cons rfl (.cons rfl (.cons rfl (.cons rfl (.cons rfl (.cons rfl (.cons rfl (.cons rfl (.cons rfl (.cons rfl (.cons rfl (.cons rfl (.cons rfl (.cons rfl (.cons rfl (.cons rfl (.cons rfl (.cons rfl (.cons rfl (.cons rfl (.cons rfl (.cons rfl (.cons rfl (.cons rfl (.cons rfl (.cons rfl (.cons rfl (.cons rfl .nil)))))))))))))))))))))))))))))))))))))))))))))))))))))))) ?_)
                  refine Fw.condF rfl ?_
                  refine Fw.skip ?_
                  refine Fw.X_blockN ?_
                  refine hK32 _ _ ?_
                  refine Fw.region ?_
                  refine Fw.s (Fw.val_bin rfl rfl (Fw.b_add (Fw.i64_ok (by omega)))) rfl ?_
                  refine Fw.s (Fw.val_move rfl) rfl ?_
                  refine Fw.nil ?_
                  refine Fw.roundEnd _ _ (by omega) ⟨j + 1, rfl, hjn, HR, HXa, HO1, HO2, HB, rfl⟩ (.cons rfl (.cons rfl (.cons rfl (.cons rfl (.cons rfl (.cons rfl (.cons rfl (.cons rfl (.cons rfl .nil)))))))))
                · rintro m2
                  refine Fw.s (Fw.val_pickT rfl rfl) rfl ?_
                  refine Fw.s (Fw.val_move rfl) rfl ?_
                  refine Fw.gF (d := 92) rfl rfl rfl rfl ?_
                  refine Fw.gF (d := 92) rfl rfl rfl rfl ?_
                  refine Fw.gF (d := 92) rfl rfl rfl rfl ?_
                  refine Fw.s (Fw.val_pickF rfl rfl) rfl ?_
                  refine Fw.nil ?_
                  refine hK41 _ _ ?_
                  refine Fw.condF rfl ?_
                  refine Fw.skip ?_
                  refine hK40 _ _ (Fw.FC.sub (f' := [(95, _), (94, _), (93, _), (90, _), (89, _), (88, _), (82, _), (81, _), (80, _), (79, _), (78, _), (77, _), (76, _), (75, _), (72, _), (71, _), (70, _), (69, _), (68, _), (13, _), (12, _), (55, _), (54, _), (53, _), (9, _), (8, _), (37, _), (36, _), (35, _), (5, _)]) (.cons rfl (.cons rfl (.cons rfl (.cons rfl (.cons rfl (.cons rfl (.cons rfl (.cons rfl (.cons rfl (.cons rfl (.cons rfl (.cons rfl (.cons rfl (.cons rfl (.cons rfl (.cons rfl (.cons rfl (.cons rfl (.cons rfl (.cons rfl (.cons rfl (.cons rfl (.cons rfl (.cons rfl (.cons rfl (.cons rfl (.cons rfl (.cons rfl (.cons rfl (.cons rfl .nil)))))))))))))))))))))))))))))) ?_)
                  refine Fw.seq fun _ hK47 => ?_
                  refine Fw.seq fun _ hK48 => ?_
                  refine Fw.region ?_
                  refine Fw.s (Fw.val_fieldAddr fl32_7 rfl rfl) rfl ?_
                  refine Fw.ld sc2 rfl (HXw.cell 7) rfl ?_
                  refine Fw.s (Fw.Val.F (Fw.val_bin rfl rfl Fw.b_neq) (by omega)) rfl ?_
                  refine Fw.s (Fw.val_move rfl) rfl ?_
                  refine Fw.gF (d := 100) rfl rfl rfl rfl ?_
                  refine Fw.gF (d := 100) rfl rfl rfl rfl ?_
                  refine Fw.gF (d := 100) rfl rfl rfl rfl ?_
                  refine Fw.s (Fw.val_pickF rfl rfl) rfl ?_
                  refine Fw.s (Fw.val_move rfl) rfl ?_
                  refine Fw.gF (d := 105) rfl rfl rfl rfl ?_
                  refine Fw.gF (d := 105) rfl rfl rfl rfl ?_
                  refine Fw.gF (d := 105) rfl rfl rfl rfl ?_
                  refine Fw.gF (d := 105) rfl rfl rfl rfl ?_
                  refine Fw.gF (d := 105) rfl rfl rfl rfl ?_
                  refine Fw.s (Fw.val_pickF rfl rfl) rfl ?_
                  refine Fw.s (Fw.val_move rfl) rfl ?_
                  refine Fw.gF (d := 112) rfl rfl rfl rfl ?_
                  refine Fw.gF (d := 112) rfl rfl rfl rfl ?_
                  refine Fw.gF (d := 112) rfl rfl rfl rfl ?_
                  refine Fw.gF (d := 112) rfl rfl rfl rfl ?_
                  refine Fw.s (Fw.val_pickF rfl rfl) rfl ?_
                  refine Fw.nil ?_
                  refine hK48 _ _ (Fw.FC.sub (f' := [(117, _), (116, _), (115, _), (114, _), (113, _), (110, _), (109, _), (108, _), (107, _), (106, _), (103, _), (102, _), (101, _), (95, _), (94, _), (93, _), (90, _), (89, _), (88, _), (82, _), (81, _), (80, _), (79, _), (78, _), (77, _), (76, _), (75, _), (72, _), (71, _), (70, _), (69, _), (68, _), (13, _), (12, _), (55, _), (54, _), (53, _), (9, _), (8, _), (37, _), (36, _), (35, _), (5, _)]) (.cons rfl (.cons rfl (.cons rfl (.cons rfl (.cons rfl (.cons rfl (.cons rfl (.cons rfl (.cons rfl (.cons rfl (.cons rfl (.cons rfl (.cons rfl (.cons rfl (.cons rfl (.cons rfl (.cons rfl (.cons rfl (.cons rfl (.cons rfl (.cons rfl (.cons rfl (.cons rfl (.cons rfl (.cons rfl (.cons rfl (.cons rfl (.cons rfl (.cons rfl (.cons rfl (.cons rfl (.cons rfl (.cons rfl (.cons rfl (.cons rfl (.cons rfl (.cons rfl (.cons rfl (.cons rfl (.cons rfl (.cons rfl (.cons rfl (.cons rfl .nil))))))))))))))))))))))))))))))))))))))))))) ?_)
                  refine Fw.condF rfl ?_
                  refine Fw.skip ?_
                  refine hK47 _ _ ?_
                  refine Fw.seq fun _ hK49 => ?_
                  refine Fw.region ?_
                  refine Fw.s (Fw.val_fieldAddr fl32_8 rfl rfl) rfl ?_
                  refine Fw.ld sc2 rfl (HXu.cell 8) rfl ?_
                  refine Fw.s (Fw.val_fieldAddr fl32_8 rfl rfl) rfl ?_
                  refine Fw.ld sc2 rfl (HXw.cell 8) rfl ?_
                  refine Fw.s (Fw.Val.F (Fw.val_bin rfl rfl Fw.b_lss) (by omega)) rfl ?_
                  refine Fw.s (Fw.val_move rfl) rfl ?_
                  refine Fw.gT (d := 123) rfl rfl ?_
                  refine Fw.s (Fw.val_fieldAddr fl32_5 rfl rfl) rfl ?_
                  refine Fw.gT (d := 123) rfl rfl ?_
                  refine Fw.ld sc2 rfl (HXu.cell 5) rfl ?_
                  refine Fw.gT (d := 123) rfl rfl ?_
                  refine Fw.s (Fw.val_fieldAddr fl32_5 rfl rfl) rfl ?_
                  refine Fw.gT (d := 123) rfl rfl ?_
                  refine Fw.ld sc2 rfl (HXw.cell 5) rfl ?_
                  refine Fw.gT (d := 123) rfl rfl ?_
                  refine Fw.s (Fw.Val.F (Fw.val_bin rfl rfl Fw.b_lss) (by omega)) rfl ?_
                  refine Fw.s (Fw.val_pickF rfl rfl) rfl ?_
                  refine Fw.s (Fw.val_move rfl) rfl ?_
                  refine Fw.gT (d := 130) rfl rfl ?_
                  refine Fw.s (Fw.val_fieldAddr fl32_9 rfl rfl) rfl ?_
                  refine Fw.gT (d := 130) rfl rfl ?_
                  refine Fw.ld sc2 rfl (HXu.cell 9) rfl ?_
                  refine Fw.gT (d := 130) rfl rfl ?_
                  refine Fw.s (Fw.val_fieldAddr fl32_9 rfl rfl) rfl ?_
                  refine Fw.gT (d := 130) rfl rfl ?_
                  refine Fw.ld sc2 rfl (HXw.cell 9) rfl ?_
                  refine Fw.gT (d := 130) rfl rfl ?_
                  refine Fw.s (Fw.Val.F (Fw.val_bin rfl rfl Fw.b_lss) (by omega)) rfl ?_
                  refine Fw.s (Fw.val_pickF rfl rfl) rfl ?_
                  refine Fw.s (Fw.val_move rfl) rfl ?_
                  refine Fw.gT (d := 137) rfl rfl ?_
                  refine Fw.s (Fw.val_fieldAddr fl32_9 rfl rfl) rfl ?_
                  refine Fw.gT (d := 137) rfl rfl ?_
                  refine Fw.ld sc2 rfl (HXu.cell 9) rfl ?_
                  refine Fw.gT (d := 137) rfl rfl ?_
                  refine Fw.s (Fw.val_fieldAddr fl32_8 rfl rfl) rfl ?_
                  refine Fw.gT (d := 137) rfl rfl ?_
                  refine Fw.ld sc2 rfl (HXu.cell 8) rfl ?_
                  refine Fw.gT (d := 137) rfl rfl ?_
                  refine Fw.s (Fw.Val.F (Fw.val_bin rfl rfl Fw.b_gtr) (by omega)) rfl ?_
                  refine Fw.s (Fw.val_pickF rfl rfl) rfl ?_
                  refine Fw.nil ?_
                  refine hK49 _ _ (Fw.FC.sub (f' := [(143, _), (142, _), (141, _), (140, _), (139, _), (138, _), (135, _), (134, _), (133, _), (132, _), (131, _), (128, _), (127, _), (126, _), (125, _), (124, _), (116, _), (115, _), (114, _), (113, _), (110, _), (109, _), (108, _), (107, _), (106, _), (103, _), (102, _), (101, _), (95, _), (94, _), (93, _), (90, _), (89, _), (88, _), (82, _), (81, _), (80, _), (79, _), (78, _), (77, _), (76, _), (75, _), (72, _), (71, _), (70, _), (69, _), (68, _), (55, _), (54, _), (53, _), (9, _), (8, _), (37, _), (36, _), (35, _), (5, _)]) (.cons rfl (.cons rfl (.cons rfl (.cons rfl (.cons rfl (.cons rfl (.cons rfl (.cons rfl (.cons rfl (.cons rfl (.cons rfl (.cons rfl (.cons rfl (.cons rfl (.cons rfl (.cons rfl (.cons rfl (.cons rfl (.cons rfl (.cons rfl (.cons rfl (.cons rfl (.cons rfl (.cons rfl (.cons rfl (.cons rfl (.cons rfl (.cons rfl (.cons rfl (.cons rfl (.cons rfl (.cons rfl (.cons rfl (.cons rfl (.cons rfl (.cons rfl (.cons rfl (.cons rfl (.cons rfl (.cons rfl (.cons rfl (.cons rfl (.cons rfl (.cons rfl (.cons rfl (.cons rfl (.cons rfl (.cons rfl (.cons rfl (.cons rfl (.cons rfl (.cons rfl (.cons rfl (.cons rfl (.cons rfl (.cons rfl .nil)))))))))))))))))))))))))))))))))))))))))))))))))))))))) ?_)
                  refine Fw.condF rfl ?_
                  refine Fw.skip ?_
                  refine Fw.X_blockN ?_
                  refine hK32 _ _ ?_
                  refine Fw.region ?_
                  refine Fw.s (Fw.val_bin rfl rfl (Fw.b_add (Fw.i64_ok (by omega)))) rfl ?_
                  refine Fw.s (Fw.val_move rfl) rfl ?_
                  refine Fw.nil ?_
                  refine Fw.roundEnd _ _ (by omega) ⟨j + 1, rfl, hjn, HR, HXa, HO1, HO2, HB, rfl⟩ (.cons rfl (.cons rfl (.cons rfl (.cons rfl (.cons rfl (.cons rfl (.cons rfl (.cons rfl (.cons rfl .nil)))))))))
              · rintro m1
                refine Fw.s (Fw.val_move rfl) rfl ?_
                refine Fw.gF (d := 87) rfl rfl rfl rfl ?_
                refine Fw.gF (d := 87) rfl rfl rfl rfl ?_
                refine Fw.gF (d := 87) rfl rfl rfl rfl ?_
                refine Fw.s (Fw.val_pickF rfl rfl) rfl ?_
                refine Fw.s (Fw.val_move rfl) rfl ?_
                refine Fw.gF (d := 92) rfl rfl rfl rfl ?_
                refine Fw.gF (d := 92) rfl rfl rfl rfl ?_
                refine Fw.gF (d := 92) rfl rfl rfl rfl ?_
                refine Fw.s (Fw.val_pickF rfl rfl) rfl ?_
                refine Fw.nil ?_
                refine hK41 _ _ ?_
                refine Fw.condF rfl ?_
                refine Fw.skip ?_
                refine hK40 _ _ (Fw.FC.sub (f' := [(95, _), (94, _), (93, _), (90, _), (89, _), (88, _), (82, _), (81, _), (80, _), (79, _), (78, _), (77, _), (76, _), (75, _), (72, _), (71, _), (70, _), (69, _), (68, _), (13, _), (12, _), (55, _), (54, _), (53, _), (9, _), (8, _), (37, _), (36, _), (35, _), (5, _)]) (.cons rfl (.cons rfl (.cons rfl (.cons rfl (.cons rfl (.cons rfl (.cons rfl (.cons rfl (.cons rfl (.cons rfl (.cons rfl (.cons rfl (.cons rfl (.cons rfl (.cons rfl (.cons rfl (.cons rfl (.cons rfl (.cons rfl (.cons rfl (.cons rfl (.cons rfl (.cons rfl (.cons rfl (.cons rfl (.cons rfl (.cons rfl (.cons rfl (.cons rfl (.cons rfl .nil)))))))))))))))))))))))))))))) ?_)
                refine Fw.seq fun _ hK50 => ?_
                refine Fw.seq fun _ hK51 => ?_
                refine Fw.region ?_
                refine Fw.s (Fw.val_fieldAddr fl32_7 rfl rfl) rfl ?_
                refine Fw.ld sc2 rfl (HXw.cell 7) rfl ?_
                refine Fw.s (Fw.Val.T (Fw.val_bin rfl rfl Fw.b_neq) (by omega)) rfl ?_
                refine Fw.s (Fw.val_move rfl) rfl ?_
                refine Fw.gT (d := 100) rfl rfl ?_
                refine Fw.s (Fw.val_fieldAddr fl32_7 rfl rfl) rfl ?_
                refine Fw.gT (d := 100) rfl rfl ?_
                refine Fw.ld sc2 rfl (HXu.cell 7) rfl ?_
                refine Fw.gT (d := 100) rfl rfl ?_
                refine Fw.s2 (Fw.val_bin rfl rfl Fw.b_neq) rfl ?_ ?_
                · rintro m3
                  refine Fw.s (Fw.val_pickT rfl rfl) rfl ?_
                  refine Fw.s (Fw.val_move rfl) rfl ?_
                  refine Fw.gT (d := 105) rfl rfl ?_
                  refine Fw.s (Fw.val_fieldAddr fl32_7 rfl rfl) rfl ?_
                  refine Fw.gT (d := 105) rfl rfl ?_
                  refine Fw.ld sc2 rfl (HXu.cell 7) rfl ?_
                  refine Fw.gT (d := 105) rfl rfl ?_
                  refine Fw.s (Fw.val_fieldAddr fl32_7 rfl rfl) rfl ?_
                  refine Fw.gT (d := 105) rfl rfl ?_
                  refine Fw.ld sc2 rfl (HXw.cell 7) rfl ?_
                  refine Fw.gT (d := 105) rfl rfl ?_
                  refine Fw.s2 (Fw.val_bin rfl rfl Fw.b_neq) rfl ?_ ?_
                  · rintro m4
                    refine Fw.s (Fw.val_pickT rfl rfl) rfl ?_
                    refine Fw.s (Fw.val_move rfl) rfl ?_
                    refine Fw.gT (d := 112) rfl rfl ?_
                    refine Fw.s (Fw.val_fieldAddr fl47_0 rfl rfl) rfl ?_
                    refine Fw.gT (d := 112) rfl rfl ?_
                    refine Fw.ld sc5 rfl (HXa.cell 0) rfl ?_
                    refine Fw.gT (d := 112) rfl rfl ?_
                    refine Fw.s (Fw.val_bin rfl rfl (Fw.b_rem (by decide) rfl)) rfl ?_
                    refine Fw.gT (d := 112) rfl rfl ?_
                    refine Fw.s (Fw.Val.F (Fw.val_bin rfl rfl Fw.b_neq) (by omega)) rfl ?_
                    refine Fw.s (Fw.val_pickT rfl rfl) rfl ?_
                    refine Fw.nil ?_
                    refine hK51 _ _ (Fw.FC.sub (f' := [(117, _), (116, _), (115, _), (114, _), (113, _), (110, _), (109, _), (108, _), (107, _), (106, _), (103, _), (102, _), (101, _), (95, _), (94, _), (93, _), (90, _), (89, _), (88, _), (82, _), (81, _), (80, _), (79, _), (78, _), (77, _), (76, _), (75, _), (72, _), (71, _), (70, _), (69, _), (68, _), (13, _), (12, _), (55, _), (54, _), (53, _), (9, _), (8, _), (37, _), (36, _), (35, _), (5, _)]) (.cons rfl (.cons rfl (.cons rfl (.cons rfl (.cons rfl (.cons rfl (.cons rfl (.cons rfl (.cons rfl (.cons rfl (.cons rfl (.cons rfl (.cons rfl (.cons rfl (.cons rfl (.cons rfl (.cons rfl (.cons rfl (.cons rfl (.cons rfl (.cons rfl (.cons rfl (.cons rfl (.cons rfl (.cons rfl (.cons rfl (.cons rfl (.cons rfl (.cons rfl (.cons rfl (.cons rfl (.cons rfl (.cons rfl (.cons rfl (.cons rfl (.cons rfl (.cons rfl (.cons rfl (.cons rfl (.cons rfl (.cons rfl (.cons rfl (.cons rfl .nil))))))))))))))))))))))))))))))))))))))))))) ?_)
                    refine Fw.condF rfl ?_
                    refine Fw.skip ?_
                    refine hK50 _ _ ?_
                    refine Fw.seq fun _ hK54 => ?_
                    refine Fw.region ?_
                    refine Fw.s (Fw.val_fieldAddr fl32_8 rfl rfl) rfl ?_
                    refine Fw.ld sc2 rfl (HXu.cell 8) rfl ?_
                    refine Fw.s (Fw.val_fieldAddr fl32_8 rfl rfl) rfl ?_
                    refine Fw.ld sc2 rfl (HXw.cell 8) rfl ?_
                    refine Fw.s (Fw.Val.F (Fw.val_bin rfl rfl Fw.b_lss) (by omega)) rfl ?_
                    refine Fw.s (Fw.val_move rfl) rfl ?_
                    refine Fw.gT (d := 123) rfl rfl ?_
                    refine Fw.s (Fw.val_fieldAddr fl32_5 rfl rfl) rfl ?_
                    refine Fw.gT (d := 123) rfl rfl ?_
                    refine Fw.ld sc2 rfl (HXu.cell 5) rfl ?_
                    refine Fw.gT (d := 123) rfl rfl ?_
                    refine Fw.s (Fw.val_fieldAddr fl32_5 rfl rfl) rfl ?_
                    refine Fw.gT (d := 123) rfl rfl ?_
                    refine Fw.ld sc2 rfl (HXw.cell 5) rfl ?_
                    refine Fw.gT (d := 123) rfl rfl ?_
                    refine Fw.s (Fw.Val.F (Fw.val_bin rfl rfl Fw.b_lss) (by omega)) rfl ?_
                    refine Fw.s (Fw.val_pickF rfl rfl) rfl ?_
                    refine Fw.s (Fw.val_move rfl) rfl ?_
                    refine Fw.gT (d := 130) rfl rfl ?_
                    refine Fw.s (Fw.val_fieldAddr fl32_9 rfl rfl) rfl ?_
                    refine Fw.gT (d := 130) rfl rfl ?_
                    refine Fw.ld sc2 rfl (HXu.cell 9) rfl ?_
                    refine Fw.gT (d := 130) rfl rfl ?_
                    refine Fw.s (Fw.val_fieldAddr fl32_9 rfl rfl) rfl ?_
                    refine Fw.gT (d := 130) rfl rfl ?_
                    refine Fw.ld sc2 rfl (HXw.cell 9) rfl ?_
                    refine Fw.gT (d := 130) rfl rfl ?_
                    refine Fw.s (Fw.Val.F (Fw.val_bin rfl rfl Fw.b_lss) (by omega)) rfl ?_
                    refine Fw.s (Fw.val_pickF rfl rfl) rfl ?_
                    refine Fw.s (Fw.val_move rfl) rfl ?_
                    refine Fw.gT (d := 137) rfl rfl ?_
                    refine Fw.s (Fw.val_fieldAddr fl32_9 rfl rfl) rfl ?_
                    refine Fw.gT (d := 137) rfl rfl ?_
                    refine Fw.ld sc2 rfl (HXu.cell 9) rfl ?_
                    refine Fw.gT (d := 137) rfl rfl ?_
                    refine Fw.s (Fw.val_fieldAddr fl32_8 rfl rfl) rfl ?_
                    refine Fw.gT (d := 137) rfl rfl ?_
                    refine Fw.ld sc2 rfl (HXu.cell 8) rfl ?_
                    refine Fw.gT (d := 137) rfl rfl ?_
                    refine Fw.s (Fw.Val.F (Fw.val_bin rfl rfl Fw.b_gtr) (by omega)) rfl ?_
                    refine Fw.s (Fw.val_pickF rfl rfl) rfl ?_
                    refine Fw.nil ?_
                    refine hK54 _ _ (Fw.FC.sub (f' := [(143, _), (142, _), (141, _), (140, _), (139, _), (138, _), (135, _), (134, _), (133, _), (132, _), (131, _), (128, _), (127, _), (126, _), (125, _), (124, _), (116, _), (115, _), (114, _), (113, _), (110, _), (109, _), (108, _), (107, _), (106, _), (103, _), (102, _), (101, _), (95, _), (94, _), (93, _), (90, _), (89, _), (88, _), (82, _), (81, _), (80, _), (79, _), (78, _), (77, _), (76, _), (75, _), (72, _), (71, _), (70, _), (69, _), (68, _), (55, _), (54, _), (53, _), (9, _), (8, _), (37, _), (36, _), (35, _), (5, _)]) (.cons rfl (.cons rfl (.cons rfl (.cons rfl (.cons rfl (.cons rfl (.cons rfl (.cons rfl (.cons rfl (.cons rfl (.cons rfl (.cons rfl (.cons rfl (.cons rfl (.cons rfl (.cons rfl (.cons rfl (.cons rfl (.cons rfl (.cons rfl (.cons rfl (.cons rfl (.cons rfl (.cons rfl (.cons rfl (.cons rfl (.cons rfl (.cons rfl (.cons rfl (.cons rfl (.cons rfl (.cons rfl (.cons rfl (.cons rfl (.cons rfl (.cons rfl (.cons rfl (.cons rfl (.cons rfl (.cons rfl (.cons rfl (.cons rfl (.cons rfl (.cons rfl (.cons rfl (.cons rfl (.cons rfl (.cons rfl (.cons rfl (.cons rfl (.cons rfl (.cons rfl (.cons rfl (.cons rfl (.cons rfl (.cons rfl .nil)))))))))))))))))))))))))))))))))))))))))))))))))))))))) ?_)
                    refine Fw.condF rfl ?_
                    refine Fw.skip ?_
                    refine Fw.X_blockN ?_
                    refine hK32 _ _ ?_
                    refine Fw.region ?_
                    refine Fw.s (Fw.val_bin rfl rfl (Fw.b_add (Fw.i64_ok (by omega)))) rfl ?_
                    refine Fw.s (Fw.val_move rfl) rfl ?_
                    refine Fw.nil ?_
                    refine Fw.roundEnd _ _ (by omega) ⟨j + 1, rfl, hjn, HR, HXa, HO1, HO2, HB, rfl⟩ (.cons rfl (.cons rfl (.cons rfl (.cons rfl (.cons rfl (.cons rfl (.cons rfl (.cons rfl (.cons rfl .nil)))))))))
                  · rintro m4
                    refine Fw.s (Fw.val_pickT rfl rfl) rfl ?_
                    refine Fw.s (Fw.val_move rfl) rfl ?_
                    refine Fw.gF (d := 112) rfl rfl rfl rfl ?_
                    refine Fw.gF (d := 112) rfl rfl rfl rfl ?_
                    refine Fw.gF (d := 112) rfl rfl rfl rfl ?_
                    refine Fw.gF (d := 112) rfl rfl rfl rfl ?_
                    refine Fw.s (Fw.val_pickF rfl rfl) rfl ?_
                    refine Fw.nil ?_
                    refine hK51 _ _ (Fw.FC.sub (f' := [(117, _), (116, _), (115, _), (114, _), (113, _), (110, _), (109, _), (108, _), (107, _), (106, _), (103, _), (102, _), (101, _), (95, _), (94, _), (93, _), (90, _), (89, _), (88, _), (82, _), (81, _), (80, _), (79, _), (78, _), (77, _), (76, _), (75, _), (72, _), (71, _), (70, _), (69, _), (68, _), (13, _), (12, _), (55, _), (54, _), (53, _), (9, _), (8, _), (37, _), (36, _), (35, _), (5, _)]) (.cons rfl (.cons rfl (.cons rfl (.cons rfl (.cons rfl (.cons rfl (.cons rfl (.cons rfl (.cons rfl (.cons rfl (.cons rfl (.cons rfl (.cons rfl (.cons rfl (.cons rfl (.cons rfl (.cons rfl (.cons rfl (.cons rfl (.cons rfl (.cons rfl (.cons rfl (.cons rfl (.cons rfl (.cons rfl (.cons rfl (.cons rfl (.cons rfl (.cons rfl (.cons rfl (.cons rfl (.cons rfl (.cons rfl (.cons rfl (.cons rfl (.cons rfl (.cons rfl (.cons rfl (.cons rfl (.cons rfl (.cons rfl (.cons rfl (.cons rfl .nil))))))))))))))))))))))))))))))))))))))))))) ?_)
                    refine Fw.condF rfl ?_
                    refine Fw.skip ?_
                    refine hK50 _ _ ?_
                    refine Fw.seq fun _ hK55 => ?_
                    refine Fw.region ?_
                    refine Fw.s (Fw.val_fieldAddr fl32_8 rfl rfl) rfl ?_
                    refine Fw.ld sc2 rfl (HXu.cell 8) rfl ?_
                    refine Fw.s (Fw.val_fieldAddr fl32_8 rfl rfl) rfl ?_
                    refine Fw.ld sc2 rfl (HXw.cell 8) rfl ?_
                    refine Fw.s (Fw.Val.F (Fw.val_bin rfl rfl Fw.b_lss) (by omega)) rfl ?_
                    refine Fw.s (Fw.val_move rfl) rfl ?_
                    refine Fw.gT (d := 123) rfl rfl ?_
                    refine Fw.s (Fw.val_fieldAddr fl32_5 rfl rfl) rfl ?_
                    refine Fw.gT (d := 123) rfl rfl ?_
                    refine Fw.ld sc2 rfl (HXu.cell 5) rfl ?_
                    refine Fw.gT (d := 123) rfl rfl ?_
                    refine Fw.s (Fw.val_fieldAddr fl32_5 rfl rfl) rfl ?_
                    refine Fw.gT (d := 123) rfl rfl ?_
                    refine Fw.ld sc2 rfl (HXw.cell 5) rfl ?_
                    refine Fw.gT (d := 123) rfl rfl ?_
                    refine Fw.s (Fw.Val.F (Fw.val_bin rfl rfl Fw.b_lss) (by omega)) rfl ?_
                    refine Fw.s (Fw.val_pickF rfl rfl) rfl ?_
                    refine Fw.s (Fw.val_move rfl) rfl ?_
                    refine Fw.gT (d := 130) rfl rfl ?_
                    refine Fw.s (Fw.val_fieldAddr fl32_9 rfl rfl) rfl ?_
                    refine Fw.gT (d := 130) rfl rfl ?_
                    refine Fw.ld sc2 rfl (HXu.cell 9) rfl ?_
                    refine Fw.gT (d := 130) rfl rfl ?_
                    refine Fw.s (Fw.val_fieldAddr fl32_9 rfl rfl) rfl ?_
                    refine Fw.gT (d := 130) rfl rfl ?_
                    refine Fw.ld sc2 rfl (HXw.cell 9) rfl ?_
                    refine Fw.gT (d := 130) rfl rfl ?_
                    refine Fw.s (Fw.Val.F (Fw.val_bin rfl rfl Fw.b_lss) (by omega)) rfl ?_
                    refine Fw.s (Fw.val_pickF rfl rfl) rfl ?_
                    refine Fw.s (Fw.val_move rfl) rfl ?_
                    refine Fw.gT (d := 137) rfl rfl ?_
                    refine Fw.s (Fw.val_fieldAddr fl32_9 rfl rfl) rfl ?_
                    refine Fw.gT (d := 137) rfl rfl ?_
                    refine Fw.ld sc2 rfl (HXu.cell 9) rfl ?_
                    refine Fw.gT (d := 137) rfl rfl ?_
                    refine Fw.s (Fw.val_fieldAddr fl32_8 rfl rfl) rfl ?_
                    refine Fw.gT (d := 137) rfl rfl ?_
                    refine Fw.ld sc2 rfl (HXu.cell 8) rfl ?_
                    refine Fw.gT (d := 137) rfl rfl ?_
                    refine Fw.s (Fw.Val.F (Fw.val_bin rfl rfl Fw.b_gtr) (by omega)) rfl ?_
                    refine Fw.s (Fw.val_pickF rfl rfl) rfl ?_
                    refine Fw.nil ?_
                    refine hK55 _ _ (Fw.FC.sub (f' := [(143, _), (142, _), (141, _), (140, _), (139, _), (138, _), (135, _), (134, _), (133, _), (132, _), (131, _), (128, _), (127, _), (126, _), (125, _), (124, _), (116, _), (115, _), (114, _), (113, _), (110, _), (109, _), (108, _), (107, _), (106, _), (103, _), (102, _), (101, _), (95, _), (94, _), (93, _), (90, _), (89, _), (88, _), (82, _), (81, _), (80, _), (79, _), (78, _), (77, _), (76, _), (75, _), (72, _), (71, _), (70, _), (69, _), (68, _), (55, _), (54, _), (53, _), (9, _), (8, _), (37, _), (36, _), (35, _), (5, _)]) (.cons rfl (.cons rfl (.cons rfl (.cons rfl (.cons rfl (.cons rfl (.cons rfl (.cons rfl (.cons rfl (.cons rfl (.cons rfl (.cons rfl (.cons rfl (.cons rfl (.cons rfl (.cons rfl (.cons rfl (.cons rfl (.cons rfl (.cons rfl (.cons rfl (.cons rfl (.cons rfl (.cons rfl (.cons rfl (.cons rfl (.cons rfl (.cons rfl (.cons rfl (.cons rfl (.cons rfl (.cons rfl (.cons rfl (.cons rfl (.cons rfl (.cons rfl (.cons rfl (.cons rfl (.cons rfl (.cons rfl (.cons rfl (.cons rfl (.cons rfl (.cons rfl (.cons rfl (.cons rfl (.cons rfl (.cons rfl (.cons rfl (.cons rfl (.cons rfl (.cons rfl (.cons rfl (.cons rfl (.cons rfl (.cons rfl .nil)))))))))))))))))))))))))))))))))))))))))))))))))))))))) ?_)
                    refine Fw.condF rfl ?_
                    refine Fw.skip ?_
                    refine Fw.X_blockN ?_
                    refine hK32 _ _ ?_
                    refine Fw.region ?_
                    refine Fw.s (Fw.val_bin rfl rfl (Fw.b_add (Fw.i64_ok (by omega)))) rfl ?_
                    refine Fw.s (Fw.val_move rfl) rfl ?_
                    refine Fw.nil ?_
                    refine Fw.roundEnd _ _ (by omega) ⟨j + 1, rfl, hjn, HR, HXa, HO1, HO2, HB, rfl⟩ (.cons rfl (.cons rfl (.cons rfl (.cons rfl (.cons rfl (.cons rfl (.cons rfl (.cons rfl (.cons rfl .nil)))))))))
                · rintro m3
                  refine Fw.s (Fw.val_pickT rfl rfl) rfl ?_
                  refine Fw.s (Fw.val_move rfl) rfl ?_
                  refine Fw.gF (d := 105) rfl rfl rfl rfl ?_
                  refine Fw.gF (d := 105) rfl rfl rfl rfl ?_
                  refine Fw.gF (d := 105) rfl rfl rfl rfl ?_
                  refine Fw.gF (d := 105) rfl rfl rfl rfl ?_
                  refine Fw.gF (d := 105) rfl rfl rfl rfl ?_
                  refine Fw.s (Fw.val_pickF rfl rfl) rfl ?_
                  refine Fw.s (Fw.val_move rfl) rfl ?_
                  refine Fw.gF (d := 112) rfl rfl rfl rfl ?_
                  refine Fw.gF (d := 112) rfl rfl rfl rfl ?_
                  refine Fw.gF (d := 112) rfl rfl rfl rfl ?_
                  refine Fw.gF (d := 112) rfl rfl rfl rfl ?_
                  refine Fw.s (Fw.val_pickF rfl rfl) rfl ?_
                  refine Fw.nil ?_
                  refine hK51 _ _ (Fw.FC.sub (f' := [(117, _), (116, _), (115, _), (114, _), (113, _), (110, _), (109, _), (108, _), (107, _), (106, _), (103, _), (102, _), (101, _), (95, _), (94, _), (93, _), (90, _), (89, _), (88, _), (82, _), (81, _), (80, _), (79, _), (78, _), (77, _), (76, _), (75, _), (72, _), (71, _), (70, _), (69, _), (68, _), (13, _), (12, _), (55, _), (54, _), (53, _), (9, _), (8, _), (37, _), (36, _), (35, _), (5, _)]) (.cons rfl (.cons rfl (.cons rfl (.cons rfl (.cons rfl (.cons rfl (.cons rfl (.cons rfl (.cons rfl (.cons rfl (.cons rfl (.cons rfl (.cons rfl (.cons rfl (.cons rfl (.cons rfl (.cons rfl (.cons rfl (.cons rfl (.cons rfl (.cons rfl (.cons rfl (.cons rfl (.cons rfl (.cons rfl (.cons rfl (.cons rfl (.cons rfl (.cons rfl (.cons rfl (.cons rfl (.cons rfl (.cons rfl (.cons rfl (.cons rfl (.cons rfl (.cons rfl (.cons rfl (.cons rfl (.cons rfl (.cons rfl (.cons rfl (.cons rfl .nil))))))))))))))))))))))))))))))))))))))))))) ?_)
                  refine Fw.condF rfl ?_
                  refine Fw.skip ?_
                  refine hK50 _ _ ?_
                  refine Fw.seq fun _ hK56 => ?_
                  refine Fw.region ?_
                  refine Fw.s (Fw.val_fieldAddr fl32_8 rfl rfl) rfl ?_
                  refine Fw.ld sc2 rfl (HXu.cell 8) rfl ?_
                  refine Fw.s (Fw.val_fieldAddr fl32_8 rfl rfl) rfl ?_
                  refine Fw.ld sc2 rfl (HXw.cell 8) rfl ?_
                  refine Fw.s (Fw.Val.F (Fw.val_bin rfl rfl Fw.b_lss) (by omega)) rfl ?_
                  refine Fw.s (Fw.val_move rfl) rfl ?_
                  refine Fw.gT (d := 123) rfl rfl ?_
                  refine Fw.s (Fw.val_fieldAddr fl32_5 rfl rfl) rfl ?_
                  refine Fw.gT (d := 123) rfl rfl ?_
                  refine Fw.ld sc2 rfl (HXu.cell 5) rfl ?_
                  refine Fw.gT (d := 123) rfl rfl ?_
                  refine Fw.s (Fw.val_fieldAddr fl32_5 rfl rfl) rfl ?_
                  refine Fw.gT (d := 123) rfl rfl ?_
                  refine Fw.ld sc2 rfl (HXw.cell 5) rfl ?_
                  refine Fw.gT (d := 123) rfl rfl ?_
                  refine Fw.s (Fw.Val.F (Fw.val_bin rfl rfl Fw.b_lss) (by omega)) rfl ?_
                  refine Fw.s (Fw.val_pickF rfl rfl) rfl ?_
                  refine Fw.s (Fw.val_move rfl) rfl ?_
                  refine Fw.gT (d := 130) rfl rfl ?_
                  refine Fw.s (Fw.val_fieldAddr fl32_9 rfl rfl) rfl ?_
                  refine Fw.gT (d := 130) rfl rfl ?_
                  refine Fw.ld sc2 rfl (HXu.cell 9) rfl ?_
                  refine Fw.gT (d := 130) rfl rfl ?_
                  refine Fw.s (Fw.val_fieldAddr fl32_9 rfl rfl) rfl ?_
                  refine Fw.gT (d := 130) rfl rfl ?_
                  refine Fw.ld sc2 rfl (HXw.cell 9) rfl ?_
                  refine Fw.gT (d := 130) rfl rfl ?_
                  refine Fw.s (Fw.Val.F (Fw.val_bin rfl rfl Fw.b_lss) (by omega)) rfl ?_
                  refine Fw.s (Fw.val_pickF rfl rfl) rfl ?_
                  refine Fw.s (Fw.val_move rfl) rfl ?_
                  refine Fw.gT (d := 137) rfl rfl ?_
                  refine Fw.s (Fw.val_fieldAddr fl32_9 rfl rfl) rfl ?_
                  refine Fw.gT (d := 137) rfl rfl ?_
                  refine Fw.ld sc2 rfl (HXu.cell 9) rfl ?_
                  refine Fw.gT (d := 137) rfl rfl ?_
                  refine Fw.s (Fw.val_fieldAddr fl32_8 rfl rfl) rfl ?_
                  refine Fw.gT (d := 137) rfl rfl ?_
                  refine Fw.ld sc2 rfl (HXu.cell 8) rfl ?_
                  refine Fw.gT (d := 137) rfl rfl ?_
                  refine Fw.s (Fw.Val.F (Fw.val_bin rfl rfl Fw.b_gtr) (by omega)) rfl ?_
                  refine Fw.s (Fw.val_pickF rfl rfl) rfl ?_
                  refine Fw.nil ?_
                  refine hK56 _ _ (Fw.FC.sub (f' := [(143, _), (142, _), (141, _), (140, _), (139, _), (138, _), (135, _), (134, _), (133, _), (132, _), (131, _), (128, _), (127, _), (126, _), (125, _), (124, _), (116, _), (115, _), (114, _), (113, _), (110, _), (109, _), (108, _), (107, _), (106, _), (103, _), (102, _), (101, _), (95, _), (94, _), (93, _), (90, _), (89, _), (88, _), (82, _), (81, _), (80, _), (79, _), (78, _), (77, _), (76, _), (75, _), (72, _), (71, _), (70, _), (69, _), (68, _), (55, _), (54, _), (53, _), (9, _), (8, _), (37, _), (36, _), (35, _), (5, _)]) (.cons rfl (.cons rfl (.cons rfl (.cons rfl (.cons rfl (.cons rfl (.cons rfl (.cons rfl (.cons rfl (.cons rfl (.cons rfl (.cons rfl (.cons rfl (.cons rfl (.cons rfl (.cons rfl (.cons rfl (.cons rfl (.cons rfl (.cons rfl (.cons rfl (.cons rfl (.cons rfl (.cons rfl (.cons rfl (.cons rfl (.cons rfl (.cons rfl (.cons rfl (.cons rfl (.cons rfl (.cons rfl (.cons rfl (.cons rfl (.cons rfl (.cons rfl (.cons rfl (.cons rfl (.cons rfl (.cons rfl (.cons rfl (.cons rfl (.cons rfl (.cons rfl (.cons rfl (.cons rfl (.cons rfl (.cons rfl (.cons rfl (.cons rfl (.cons rfl (.cons rfl (.cons rfl (.cons rfl (.cons rfl (.cons rfl .nil)))))))))))))))))))))))))))))))))))))))))))))))))))))))) ?_)
                  refine Fw.condF rfl ?_
                  refine Fw.skip ?_
                  refine Fw.X_blockN ?_
                  refine hK32 _ _ ?_
                  refine Fw.region ?_
                  refine Fw.s (Fw.val_bin rfl rfl (Fw.b_add (Fw.i64_ok (by omega)))) rfl ?_
                  refine Fw.s (Fw.val_move rfl) rfl ?_
                  refine Fw.nil ?_
                  refine Fw.roundEnd _ _ (by omega) ⟨j + 1, rfl, hjn, HR, HXa, HO1, HO2, HB, rfl⟩ (.cons rfl (.cons rfl (.cons rfl (.cons rfl (.cons rfl (.cons rfl (.cons rfl (.cons rfl (.cons rfl .nil)))))))))
            · rintro m0
              refine Fw.s (Fw.val_move rfl) rfl ?_
              refine Fw.gF (d := 67) rfl rfl rfl rfl ?_
              refine Fw.gF (d := 67) rfl rfl rfl rfl ?_
              refine Fw.gF (d := 67) rfl rfl rfl rfl ?_
              refine Fw.gF (d := 67) rfl rfl rfl rfl ?_
              refine Fw.gF (d := 67) rfl rfl rfl rfl ?_
              refine Fw.s (Fw.val_pickF rfl rfl) rfl ?_
              refine Fw.s (Fw.val_move rfl) rfl ?_
              refine Fw.gT (d := 74) rfl rfl ?_
              refine Fw.s (Fw.val_fieldAddr fl32_3 rfl rfl) rfl ?_
              refine Fw.gT (d := 74) rfl rfl ?_
              refine Fw.ld sc3 rfl (HXu.cell 3) rfl ?_
              refine Fw.gT (d := 74) rfl rfl ?_
              refine Fw.s (Fw.Val.F (Fw.val_bin rfl rfl Fw.b_eql) (by omega)) rfl ?_
              refine Fw.gT (d := 74) rfl rfl ?_
              refine Fw.s (Fw.val_move rfl) rfl ?_
              refine Fw.gF (d := 78) rfl rfl rfl rfl ?_
              refine Fw.gF (d := 78) rfl rfl rfl rfl ?_
              refine Fw.gF (d := 78) rfl rfl rfl rfl ?_
              refine Fw.gT (d := 74) rfl rfl ?_
              refine Fw.s (Fw.val_pickF rfl rfl) rfl ?_
              refine Fw.s (Fw.val_pickF rfl rfl) rfl ?_
              refine Fw.nil ?_
              refine hK38 _ _ ?_
              refine Fw.condF rfl ?_
              refine Fw.skip ?_
              refine hK37 _ _ (Fw.FC.sub (f' := [(82, _), (81, _), (80, _), (79, _), (78, _), (77, _), (76, _), (75, _), (72, _), (71, _), (70, _), (69, _), (68, _), (13, _), (12, _), (55, _), (54, _), (53, _), (9, _), (8, _), (37, _), (36, _), (35, _), (5, _)]) (.cons rfl (.cons rfl (.cons rfl (.cons rfl (.cons rfl (.cons rfl (.cons rfl (.cons rfl (.cons rfl (.cons rfl (.cons rfl (.cons rfl (.cons rfl (.cons rfl (.cons rfl (.cons rfl (.cons rfl (.cons rfl (.cons rfl (.cons rfl (.cons rfl (.cons rfl (.cons rfl (.cons rfl .nil)))))))))))))))))))))))) ?_)
              refine Fw.seq fun _ hK57 => ?_
              refine Fw.seq fun _ hK58 => ?_
              refine Fw.region ?_
              refine Fw.s (Fw.val_fieldAddr fl32_7 rfl rfl) rfl ?_
              refine Fw.ld sc2 rfl (HXw.cell 7) rfl ?_
              refine Fw.s2 (Fw.val_bin rfl rfl Fw.b_eql) rfl ?_ ?_
              · rintro m1
                refine Fw.s (Fw.val_move rfl) rfl ?_
                refine Fw.gT (d := 87) rfl rfl ?_
                refine Fw.s (Fw.val_fieldAddr fl32_7 rfl rfl) rfl ?_
                refine Fw.gT (d := 87) rfl rfl ?_
                refine Fw.ld sc2 rfl (HXu.cell 7) rfl ?_
                refine Fw.gT (d := 87) rfl rfl ?_
                refine Fw.s2 (Fw.val_bin rfl rfl Fw.b_neq) rfl ?_ ?_
                · rintro m2
                  refine Fw.s (Fw.val_pickT rfl rfl) rfl ?_
                  refine Fw.s (Fw.val_move rfl) rfl ?_
                  refine Fw.gT (d := 92) rfl rfl ?_
                  refine Fw.s (Fw.val_fieldAddr fl32_3 rfl rfl) rfl ?_
                  refine Fw.gT (d := 92) rfl rfl ?_
                  refine Fw.ld sc3 rfl (HXw.cell 3) rfl ?_
                  refine Fw.gT (d := 92) rfl rfl ?_
                  refine Fw.s (Fw.Val.F (Fw.val_bin rfl rfl Fw.b_neq) (by omega)) rfl ?_
                  refine Fw.s (Fw.val_pickT rfl rfl) rfl ?_
                  refine Fw.nil ?_
                  refine hK58 _ _ ?_
                  refine Fw.condF rfl ?_
                  refine Fw.skip ?_
                  refine hK57 _ _ (Fw.FC.sub (f' := [(95, _), (94, _), (93, _), (90, _), (89, _), (88, _), (82, _), (81, _), (80, _), (79, _), (78, _), (77, _), (76, _), (75, _), (72, _), (71, _), (70, _), (69, _), (68, _), (13, _), (12, _), (55, _), (54, _), (53, _), (9, _), (8, _), (37, _), (36, _), (35, _), (5, _)]) (.cons rfl (.cons rfl (.cons rfl (.cons rfl (.cons rfl (.cons rfl (.cons rfl (.cons rfl (.cons rfl (.cons rfl (.cons rfl (.cons rfl (.cons rfl (.cons rfl (.cons rfl (.cons rfl (.cons rfl (.cons rfl (.cons rfl (.cons rfl (.cons rfl (.cons rfl (.cons rfl (.cons rfl (.cons rfl (.cons rfl (.cons rfl (.cons rfl (.cons rfl (.cons rfl .nil)))))))))))))))))))))))))))))) ?_)
                  refine Fw.seq fun _ hK61 => ?_
                  refine Fw.seq fun _ hK62 => ?_
                  refine Fw.region ?_
                  refine Fw.s (Fw.val_fieldAddr fl32_7 rfl rfl) rfl ?_
                  refine Fw.ld sc2 rfl (HXw.cell 7) rfl ?_
                  refine Fw.s (Fw.Val.F (Fw.val_bin rfl rfl Fw.b_neq) (by omega)) rfl ?_
                  refine Fw.s (Fw.val_move rfl) rfl ?_
                  refine Fw.gF (d := 100) rfl rfl rfl rfl ?_
                  refine Fw.gF (d := 100) rfl rfl rfl rfl ?_
                  refine Fw.gF (d := 100) rfl rfl rfl rfl ?_
                  refine Fw.s (Fw.val_pickF rfl rfl) rfl ?_
                  refine Fw.s (Fw.val_move rfl) rfl ?_
                  refine Fw.gF (d := 105) rfl rfl rfl rfl ?_
                  refine Fw.gF (d := 105) rfl rfl rfl rfl ?_
                  refine Fw.gF (d := 105) rfl rfl rfl rfl ?_
                  refine Fw.gF (d := 105) rfl rfl rfl rfl ?_
                  refine Fw.gF (d := 105) rfl rfl rfl rfl ?_
                  refine Fw.s (Fw.val_pickF rfl rfl) rfl ?_
                  refine Fw.s (Fw.val_move rfl) rfl ?_
                  refine Fw.gF (d := 112) rfl rfl rfl rfl ?_
                  refine Fw.gF (d := 112) rfl rfl rfl rfl ?_
                  refine Fw.gF (d := 112) rfl rfl rfl rfl ?_
                  refine Fw.gF (d := 112) rfl rfl rfl rfl ?_
                  refine Fw.s (Fw.val_pickF rfl rfl) rfl ?_
                  refine Fw.nil ?_
                  refine hK62 _ _ (Fw.FC.sub (f' := [(117, _), (116, _), (115, _), (114, _), (113, _), (110, _), (109, _), (108, _), (107, _), (106, _), (103, _), (102, _), (101, _), (95, _), (94, _), (93, _), (90, _), (89, _), (88, _), (82, _), (81, _), (80, _), (79, _), (78, _), (77, _), (76, _), (75, _), (72, _), (71, _), (70, _), (69, _), (68, _), (13, _), (12, _), (55, _), (54, _), (53, _), (9, _), (8, _), (37, _), (36, _), (35, _), (5, _)]) (.cons rfl (.cons rfl (.cons rfl (.cons rfl (.cons rfl (.cons rfl (.cons rfl (.cons rfl (.cons rfl (.cons rfl (.cons rfl (.cons rfl (.cons rfl (.cons rfl (.cons rfl (.cons rfl (.cons rfl (.cons rfl (.cons rfl (.cons rfl (.cons rfl (.cons rfl (.cons rfl (.cons rfl (.cons rfl (.cons rfl (.cons rfl (.cons rfl (.cons rfl (.cons rfl (.cons rfl (.cons rfl (.cons rfl (.cons rfl (.cons rfl (.cons rfl (.cons rfl (.cons rfl (.cons rfl (.cons rfl (.cons rfl (.cons rfl (.cons rfl .nil))))))))))))))))))))))))))))))))))))))))))) ?_)
                  refine Fw.condF rfl ?_
                  refine Fw.skip ?_
                  refine hK61 _ _ ?_
                  refine Fw.seq fun _ hK63 => ?_
                  refine Fw.region ?_
                  refine Fw.s (Fw.val_fieldAddr fl32_8 rfl rfl) rfl ?_
                  refine Fw.ld sc2 rfl (HXu.cell 8) rfl ?_
                  refine Fw.s (Fw.val_fieldAddr fl32_8 rfl rfl) rfl ?_
                  refine Fw.ld sc2 rfl (HXw.cell 8) rfl ?_
                  refine Fw.s (Fw.Val.F (Fw.val_bin rfl rfl Fw.b_lss) (by omega)) rfl ?_
                  refine Fw.s (Fw.val_move rfl) rfl ?_
                  refine Fw.gT (d := 123) rfl rfl ?_
                  refine Fw.s (Fw.val_fieldAddr fl32_5 rfl rfl) rfl ?_
                  refine Fw.gT (d := 123) rfl rfl ?_
                  refine Fw.ld sc2 rfl (HXu.cell 5) rfl ?_
                  refine Fw.gT (d := 123) rfl rfl ?_
                  refine Fw.s (Fw.val_fieldAddr fl32_5 rfl rfl) rfl ?_
                  refine Fw.gT (d := 123) rfl rfl ?_
                  refine Fw.ld sc2 rfl (HXw.cell 5) rfl ?_
                  refine Fw.gT (d := 123) rfl rfl ?_
                  refine Fw.s (Fw.Val.F (Fw.val_bin rfl rfl Fw.b_lss) (by omega)) rfl ?_
                  refine Fw.s (Fw.val_pickF rfl rfl) rfl ?_
                  refine Fw.s (Fw.val_move rfl) rfl ?_
                  refine Fw.gT (d := 130) rfl rfl ?_
                  refine Fw.s (Fw.val_fieldAddr fl32_9 rfl rfl) rfl ?_
                  refine Fw.gT (d := 130) rfl rfl ?_
                  refine Fw.ld sc2 rfl (HXu.cell 9) rfl ?_
                  refine Fw.gT (d := 130) rfl rfl ?_
                  refine Fw.s (Fw.val_fieldAddr fl32_9 rfl rfl) rfl ?_
                  refine Fw.gT (d := 130) rfl rfl ?_
                  refine Fw.ld sc2 rfl (HXw.cell 9) rfl ?_
                  refine Fw.gT (d := 130) rfl rfl ?_
                  refine Fw.s (Fw.Val.F (Fw.val_bin rfl rfl Fw.b_lss) (by omega)) rfl ?_
                  refine Fw.s (Fw.val_pickF rfl rfl) rfl ?_
                  refine Fw.s (Fw.val_move rfl) rfl ?_
                  refine Fw.gT (d := 137) rfl rfl ?_
                  refine Fw.s (Fw.val_fieldAddr fl32_9 rfl rfl) rfl ?_
                  refine Fw.gT (d := 137) rfl rfl ?_
                  refine Fw.ld sc2 rfl (HXu.cell 9) rfl ?_
                  refine Fw.gT (d := 137) rfl rfl ?_
                  refine Fw.s (Fw.val_fieldAddr fl32_8 rfl rfl) rfl ?_
                  refine Fw.gT (d := 137) rfl rfl ?_
                  refine Fw.ld sc2 rfl (HXu.cell 8) rfl ?_
                  refine Fw.gT (d := 137) rfl rfl ?_
                  refine Fw.s (Fw.Val.F (Fw.val_bin rfl rfl Fw.b_gtr) (by omega)) rfl ?_
                  refine Fw.s (Fw.val_pickF rfl rfl) rfl ?_
                  refine Fw.nil ?_
                  refine hK63 _ _ (Fw.FC.sub (f' := [(143, _), (142, _), (141, _), (140, _), (139, _), (138, _), (135, _), (134, _), (133, _), (132, _), (131, _), (128, _), (127, _), (126, _), (125, _), (124, _), (116, _), (115, _), (114, _), (113, _), (110, _), (109, _), (108, _), (107, _), (106, _), (103, _), (102, _), (101, _), (95, _), (94, _), (93, _), (90, _), (89, _), (88, _), (82, _), (81, _), (80, _), (79, _), (78, _), (77, _), (76, _), (75, _), (72, _), (71, _), (70, _), (69, _), (68, _), (55, _), (54, _), (53, _), (9, _), (8, _), (37, _), (36, _), (35, _), (5, _)]) (.cons rfl (.cons rfl (.cons rfl (.cons rfl (.cons rfl (.cons rfl (.cons rfl (.cons rfl (.cons rfl (.cons rfl (.cons rfl (.cons rfl (.cons rfl (.cons rfl (.cons rfl (.cons rfl (.cons rfl (.cons rfl (.cons rfl (.cons rfl (.cons rfl (.cons rfl (.cons rfl (.cons rfl (.cons rfl (.cons rfl (.cons rfl (.cons rfl (.cons rfl (.cons rfl (.cons rfl (.cons rfl (.cons rfl (.cons rfl (.cons rfl (.cons rfl (.cons rfl (.cons rfl (.cons rfl (.cons rfl (.cons rfl (.cons rfl (.cons rfl (.cons rfl (.cons rfl (.cons rfl (.cons rfl (.cons rfl (.cons rfl (.cons rfl (.cons rfl (.cons rfl (.cons rfl (.cons rfl (.cons rfl (.cons rfl .nil)))))))))))))))))))))))))))))))))))))))))))))))))))))))) ?_)
                  refine Fw.condF rfl ?_
                  refine Fw.skip ?_
                  refine Fw.X_blockN ?_
                  refine hK32 _ _ ?_
                  refine Fw.region ?_
                  refine Fw.s (Fw.val_bin rfl rfl (Fw.b_add (Fw.i64_ok (by omega)))) rfl ?_
                  refine Fw.s (Fw.val_move rfl) rfl ?_
                  refine Fw.nil ?_
                  refine Fw.roundEnd _ _ (by omega) ⟨j + 1, rfl, hjn, HR, HXa, HO1, HO2, HB, rfl⟩ (.cons rfl (.cons rfl (.cons rfl (.cons rfl (.cons rfl (.cons rfl (.cons rfl (.cons rfl (.cons rfl .nil)))))))))
                · rintro m2
                  refine Fw.s (Fw.val_pickT rfl rfl) rfl ?_
                  refine Fw.s (Fw.val_move rfl) rfl ?_
                  refine Fw.gF (d := 92) rfl rfl rfl rfl ?_
                  refine Fw.gF (d := 92) rfl rfl rfl rfl ?_
                  refine Fw.gF (d := 92) rfl rfl rfl rfl ?_
                  refine Fw.s (Fw.val_pickF rfl rfl) rfl ?_
                  refine Fw.nil ?_
                  refine hK58 _ _ ?_
                  refine Fw.condF rfl ?_
                  refine Fw.skip ?_
                  refine hK57 _ _ (Fw.FC.sub (f' := [(95, _), (94, _), (93, _), (90, _), (89, _), (88, _), (82, _), (81, _), (80, _), (79, _), (78, _), (77, _), (76, _), (75, _), (72, _), (71, _), (70, _), (69, _), (68, _), (13, _), (12, _), (55, _), (54, _), (53, _), (9, _), (8, _), (37, _), (36, _), (35, _), (5, _)]) (.cons rfl (.cons rfl (.cons rfl (.cons rfl (.cons rfl (.cons rfl (.cons rfl (.cons rfl (.cons rfl (.cons rfl (.cons rfl (.cons rfl (.cons rfl (.cons rfl (.cons rfl (.cons rfl (.cons rfl (.cons rfl (.cons rfl (.cons rfl (.cons rfl (.cons rfl (.cons rfl (.cons rfl (.cons rfl (.cons rfl (.cons rfl (.cons rfl (.cons rfl (.cons rfl .nil)))))))))))))))))))))))))))))) ?_)
                  refine Fw.seq fun _ hK64 => ?_
                  refine Fw.seq fun _ hK65 => ?_
                  refine Fw.region ?_
                  refine Fw.s (Fw.val_fieldAddr fl32_7 rfl rfl) rfl ?_
                  refine Fw.ld sc2 rfl (HXw.cell 7) rfl ?_
                  refine Fw.s (Fw.Val.F (Fw.val_bin rfl rfl Fw.b_neq) (by omega)) rfl ?_
                  refine Fw.s (Fw.val_move rfl) rfl ?_
                  refine Fw.gF (d := 100) rfl rfl rfl rfl ?_
                  refine Fw.gF (d := 100) rfl rfl rfl rfl ?_
                  refine Fw.gF (d := 100) rfl rfl rfl rfl ?_
                  refine Fw.s (Fw.val_pickF rfl rfl) rfl ?_
                  refine Fw.s (Fw.val_move rfl) rfl ?_
                  refine Fw.gF (d := 105) rfl rfl rfl rfl ?_
                  refine Fw.gF (d := 105) rfl rfl rfl rfl ?_
                  refine Fw.gF (d := 105) rfl rfl rfl rfl ?_
                  refine Fw.gF (d := 105) rfl rfl rfl rfl ?_
                  refine Fw.gF (d := 105) rfl rfl rfl rfl ?_
                  refine Fw.s (Fw.val_pickF rfl rfl) rfl ?_
                  refine Fw.s (Fw.val_move rfl) rfl ?_
                  refine Fw.gF (d := 112) rfl rfl rfl rfl ?_
                  refine Fw.gF (d := 112) rfl rfl rfl rfl ?_
                  refine Fw.gF (d := 112) rfl rfl rfl rfl ?_
                  refine Fw.gF (d := 112) rfl rfl rfl rfl ?_
                  refine Fw.s (Fw.val_pickF rfl rfl) rfl ?_
                  refine Fw.nil ?_
                  refine hK65 _ _ (Fw.FC.sub (f' := [(117, _), (116, _), (115, _), (114, _), (113, _), (110, _), (109, _), (108, _), (107, _), (106, _), (103, _), (102, _), (101, _), (95, _), (94, _), (93, _), (90, _), (89, _), (88, _), (82, _), (81, _), (80, _), (79, _), (78, _), (77, _), (76, _), (75, _), (72, _), (71, _), (70, _), (69, _), (68, _), (13, _), (12, _), (55, _), (54, _), (53, _), (9, _), (8, _), (37, _), (36, _), (35, _), (5, _)]) (.cons rfl (.cons rfl (.cons rfl (.cons rfl (.cons rfl (.cons rfl (.cons rfl (.cons rfl (.cons rfl (.cons rfl (.cons rfl (.cons rfl (.cons rfl (.cons rfl (.cons rfl (.cons rfl (.cons rfl (.cons rfl (.cons rfl (.cons rfl (.cons rfl (.cons rfl (.cons rfl (.cons rfl (.cons rfl (.cons rfl (.cons rfl (.cons rfl (.cons rfl (.cons rfl (.cons rfl (.cons rfl (.cons rfl (.cons rfl (.cons rfl (.cons rfl (.cons rfl (.cons rfl (.cons rfl (.cons rfl (.cons rfl (.cons rfl (.cons rfl .nil))))))))))))))))))))))))))))))))))))))))))) ?_)
                  refine Fw.condF rfl ?_
                  refine Fw.skip ?_
                  refine hK64 _ _ ?_
                  refine Fw.seq fun _ hK66 => ?_
                  refine Fw.region ?_
                  refine Fw.s (Fw.val_fieldAddr fl32_8 rfl rfl) rfl ?_
                  refine Fw.ld sc2 rfl (HXu.cell 8) rfl ?_
                  refine Fw.s (Fw.val_fieldAddr fl32_8 rfl rfl) rfl ?_
                  refine Fw.ld sc2 rfl (HXw.cell 8) rfl ?_
                  refine Fw.s (Fw.Val.F (Fw.val_bin rfl rfl Fw.b_lss) (by omega)) rfl ?_
                  refine Fw.s (Fw.val_move rfl) rfl ?_
                  refine Fw.gT (d := 123) rfl rfl ?_
                  refine Fw.s (Fw.val_fieldAddr fl32_5 rfl rfl) rfl ?_
                  refine Fw.gT (d := 123) rfl rfl ?_
                  refine Fw.ld sc2 rfl (HXu.cell 5) rfl ?_
                  refine Fw.gT (d := 123) rfl rfl ?_
                  refine Fw.s (Fw.val_fieldAddr fl32_5 rfl rfl) rfl ?_
                  refine Fw.gT (d := 123) rfl rfl ?_
                  refine Fw.ld sc2 rfl (HXw.cell 5) rfl ?_
                  refine Fw.gT (d := 123) rfl rfl ?_
                  refine Fw.s (Fw.Val.F (Fw.val_bin rfl rfl Fw.b_lss) (by omega)) rfl ?_
                  refine Fw.s (Fw.val_pickF rfl rfl) rfl ?_
                  refine Fw.s (Fw.val_move rfl) rfl ?_
                  refine Fw.gT (d := 130) rfl rfl ?_
                  refine Fw.s (Fw.val_fieldAddr fl32_9 rfl rfl) rfl ?_
                  refine Fw.gT (d := 130) rfl rfl ?_
                  refine Fw.ld sc2 rfl (HXu.cell 9) rfl ?_
                  refine Fw.gT (d := 130) rfl rfl ?_
                  refine Fw.s (Fw.val_fieldAddr fl32_9 rfl rfl) rfl ?_
                  refine Fw.gT (d := 130) rfl rfl ?_
                  refine Fw.ld sc2 rfl (HXw.cell 9) rfl ?_
                  refine Fw.gT (d := 130) rfl rfl ?_
                  refine Fw.s (Fw.Val.F (Fw.val_bin rfl rfl Fw.b_lss) (by omega)) rfl ?_
                  refine Fw.s (Fw.val_pickF rfl rfl) rfl ?_
                  refine Fw.s (Fw.val_move rfl) rfl ?_
                  refine Fw.gT (d := 137) rfl rfl ?_
                  refine Fw.s (Fw.val_fieldAddr fl32_9 rfl rfl) rfl ?_
                  refine Fw.gT (d := 137) rfl rfl ?_
                  refine Fw.ld sc2 rfl (HXu.cell 9) rfl ?_
                  refine Fw.gT (d := 137) rfl rfl ?_
                  refine Fw.s (Fw.val_fieldAddr fl32_8 rfl rfl) rfl ?_
                  refine Fw.gT (d := 137) rfl rfl ?_
                  refine Fw.ld sc2 rfl (HXu.cell 8) rfl ?_
                  refine Fw.gT (d := 137) rfl rfl ?_
                  refine Fw.s (Fw.Val.F (Fw.val_bin rfl rfl Fw.b_gtr) (by omega)) rfl ?_
                  refine Fw.s (Fw.val_pickF rfl rfl) rfl ?_
                  refine Fw.nil ?_
                  refine hK66 _ _ (Fw.FC.sub (f' := [(143, _), (142, _), (141, _), (140, _), (139, _), (138, _), (135, _), (134, _), (133, _), (132, _), (131, _), (128, _), (127, _), (126, _), (125, _), (124, _), (116, _), (115, _), (114, _), (113, _), (110, _), (109, _), (108, _), (107, _), (106, _), (103, _), (102, _), (101, _), (95, _), (94, _), (93, _), (90, _), (89, _), (88, _), (82, _), (81, _), (80, _), (79, _), (78, _), (77, _), (76, _), (75, _), (72, _), (71, _), (70, _), (69, _), (68, _), (55, _), (54, _), (53, _), (9, _), (8, _), (37, _), (36, _), (35, _), (5, _)]) (.cons rfl (.cons rfl (.cons rfl (.cons rfl (.cons rfl (.cons rfl (.cons rfl (.cons rfl (.cons rfl (.cons rfl (.cons rfl (.cons rfl (.cons rfl (.cons rfl (.cons rfl (.cons rfl (.cons rfl (.cons rfl (.cons rfl (.cons rfl (.cons rfl (.cons rfl (.cons rfl (.cons rfl (.cons rfl (.cons rfl (.cons rfl (.cons rfl (.cons rfl (.cons rfl (.cons rfl (.cons rfl (.cons rfl (.cons rfl (.cons rfl (.cons rfl (.cons rfl (.cons rfl (.cons rfl (.cons rfl (.cons rfl (.cons rfl (.cons rfl (.cons rfl (.cons rfl (.cons rfl (.cons rfl (.cons rfl (.cons rfl (.cons rfl (.cons rfl (.cons rfl (.cons rfl (.cons rfl (.cons rfl (.cons rfl .nil)))))))))))))))))))))))))))))))))))))))))))))))))))))))) ?_)
                  refine Fw.condF rfl ?_
                  refine Fw.skip ?_
                  refine Fw.X_blockN ?_
                  refine hK32 _ _ ?_
                  refine Fw.region ?_
                  refine Fw.s (Fw.val_bin rfl rfl (Fw.b_add (Fw.i64_ok (by omega)))) rfl ?_
                  refine Fw.s (Fw.val_move rfl) rfl ?_
                  refine Fw.nil ?_
                  refine Fw.roundEnd _ _ (by omega) ⟨j + 1, rfl, hjn, HR, HXa, HO1, HO2, HB, rfl⟩ (.cons rfl (.cons rfl (.cons rfl (.cons rfl (.cons rfl (.cons rfl (.cons rfl (.cons rfl (.cons rfl .nil)))))))))
              · rintro m1
                refine Fw.s (Fw.val_move rfl) rfl ?_
                refine Fw.gF (d := 87) rfl rfl rfl rfl ?_
                refine Fw.gF (d := 87) rfl rfl rfl rfl ?_
                refine Fw.gF (d := 87) rfl rfl rfl rfl ?_
                refine Fw.s (Fw.val_pickF rfl rfl) rfl ?_
                refine Fw.s (Fw.val_move rfl) rfl ?_
                refine Fw.gF (d := 92) rfl rfl rfl rfl ?_
                refine Fw.gF (d := 92) rfl rfl rfl rfl ?_
                refine Fw.gF (d := 92) rfl rfl rfl rfl ?_
                refine Fw.s (Fw.val_pickF rfl rfl) rfl ?_
                refine Fw.nil ?_
                refine hK58 _ _ ?_
                refine Fw.condF rfl ?_
                refine Fw.skip ?_
                refine hK57 _ _ (Fw.FC.sub (f' := [(95, _), (94, _), (93, _), (90, _), (89, _), (88, _), (82, _), (81, _), (80, _), (79, _), (78, _), (77, _), (76, _), (75, _), (72, _), (71, _), (70, _), (69, _), (68, _), (13, _), (12, _), (55, _), (54, _), (53, _), (9, _), (8, _), (37, _), (36, _), (35, _), (5, _)]) (.cons rfl (.cons rfl (.cons rfl (.cons rfl (.cons rfl (.cons rfl (.cons rfl (.cons rfl (.cons rfl (.cons rfl (.cons rfl (.cons rfl (.cons rfl (.cons rfl (.cons rfl (.cons rfl (.cons rfl (.cons rfl (.cons rfl (.cons rfl (.cons rfl (.cons rfl (.cons rfl (.cons rfl (.cons rfl (.cons rfl (.cons rfl (.cons rfl (.cons rfl (.cons rfl .nil)))))))))))))))))))))))))))))) ?_)
                refine Fw.seq fun _ hK67 => ?_
                refine Fw.seq fun _ hK68 => ?_
                refine Fw.region ?_
                refine Fw.s (Fw.val_fieldAddr fl32_7 rfl rfl) rfl ?_
                refine Fw.ld sc2 rfl (HXw.cell 7) rfl ?_
                refine Fw.s (Fw.Val.T (Fw.val_bin rfl rfl Fw.b_neq) (by omega)) rfl ?_
                refine Fw.s (Fw.val_move rfl) rfl ?_
                refine Fw.gT (d := 100) rfl rfl ?_
                refine Fw.s (Fw.val_fieldAddr fl32_7 rfl rfl) rfl ?_
                refine Fw.gT (d := 100) rfl rfl ?_
                refine Fw.ld sc2 rfl (HXu.cell 7) rfl ?_
                refine Fw.gT (d := 100) rfl rfl ?_
                refine Fw.s2 (Fw.val_bin rfl rfl Fw.b_neq) rfl ?_ ?_
                · rintro m3
                  refine Fw.s (Fw.val_pickT rfl rfl) rfl ?_
                  refine Fw.s (Fw.val_move rfl) rfl ?_
                  refine Fw.gT (d := 105) rfl rfl ?_
                  refine Fw.s (Fw.val_fieldAddr fl32_7 rfl rfl) rfl ?_
                  refine Fw.gT (d := 105) rfl rfl ?_
                  refine Fw.ld sc2 rfl (HXu.cell 7) rfl ?_
                  refine Fw.gT (d := 105) rfl rfl ?_
                  refine Fw.s (Fw.val_fieldAddr fl32_7 rfl rfl) rfl ?_
                  refine Fw.gT (d := 105) rfl rfl ?_
                  refine Fw.ld sc2 rfl (HXw.cell 7) rfl ?_
                  refine Fw.gT (d := 105) rfl rfl ?_
                  refine Fw.s2 (Fw.val_bin rfl rfl Fw.b_neq) rfl ?_ ?_
                  · rintro m4
                    refine Fw.s (Fw.val_pickT rfl rfl) rfl ?_
                    refine Fw.s (Fw.val_move rfl) rfl ?_
                    refine Fw.gT (d := 112) rfl rfl ?_
                    refine Fw.s (Fw.val_fieldAddr fl47_0 rfl rfl) rfl ?_
                    refine Fw.gT (d := 112) rfl rfl ?_
                    refine Fw.ld sc5 rfl (HXa.cell 0) rfl ?_
                    refine Fw.gT (d := 112) rfl rfl ?_
                    refine Fw.s (Fw.val_bin rfl rfl (Fw.b_rem (by decide) rfl)) rfl ?_
                    refine Fw.gT (d := 112) rfl rfl ?_
                    refine Fw.s (Fw.Val.F (Fw.val_bin rfl rfl Fw.b_neq) (by omega)) rfl ?_
                    refine Fw.s (Fw.val_pickT rfl rfl) rfl ?_
                    refine Fw.nil ?_
                    refine hK68 _ _ (Fw.FC.sub (f' := [(117, _), (116, _), (115, _), (114, _), (113, _), (110, _), (109, _), (108, _), (107, _), (106, _), (103, _), (102, _), (101, _), (95, _), (94, _), (93, _), (90, _), (89, _), (88, _), (82, _), (81, _), (80, _), (79, _), (78, _), (77, _), (76, _), (75, _), (72, _), (71, _), (70, _), (69, _), (68, _), (13, _), (12, _), (55, _), (54, _), (53, _), (9, _), (8, _), (37, _), (36, _), (35, _), (5, _)]) (.cons rfl (.cons rfl (.cons rfl (.cons rfl (.cons rfl (.cons rfl (.cons rfl (.cons rfl (.cons rfl (.cons rfl (.cons rfl (.cons rfl (.cons rfl (.cons rfl (.cons rfl (.cons rfl (.cons rfl (.cons rfl (.cons rfl (.cons rfl (.cons rfl (.cons rfl (.cons rfl (.cons rfl (.cons rfl (.cons rfl (.cons rfl (.cons rfl (.cons rfl (.cons rfl (.cons rfl (.cons rfl (.cons rfl (.cons rfl (.cons rfl (.cons rfl (.cons rfl (.cons rfl (.cons rfl (.cons rfl (.cons rfl (.cons rfl (.cons rfl .nil))))))))))))))))))))))))))))))))))))))))))) ?_)
                    refine Fw.condF rfl ?_
                    refine Fw.skip ?_
                    refine hK67 _ _ ?_
                    refine Fw.seq fun _ hK71 => ?_
                    refine Fw.region ?_
                    refine Fw.s (Fw.val_fieldAddr fl32_8 rfl rfl) rfl ?_
                    refine Fw.ld sc2 rfl (HXu.cell 8) rfl ?_
                    refine Fw.s (Fw.val_fieldAddr fl32_8 rfl rfl) rfl ?_
                    refine Fw.ld sc2 rfl (HXw.cell 8) rfl ?_
                    refine Fw.s (Fw.Val.F (Fw.val_bin rfl rfl Fw.b_lss) (by omega)) rfl ?_
                    refine Fw.s (Fw.val_move rfl) rfl ?_
                    refine Fw.gT (d := 123) rfl rfl ?_
                    refine Fw.s (Fw.val_fieldAddr fl32_5 rfl rfl) rfl ?_
                    refine Fw.gT (d := 123) rfl rfl ?_
                    refine Fw.ld sc2 rfl (HXu.cell 5) rfl ?_
                    refine Fw.gT (d := 123) rfl rfl ?_
                    refine Fw.s (Fw.val_fieldAddr fl32_5 rfl rfl) rfl ?_
                    refine Fw.gT (d := 123) rfl rfl ?_
                    refine Fw.ld sc2 rfl (HXw.cell 5) rfl ?_
                    refine Fw.gT (d := 123) rfl rfl ?_
                    refine Fw.s (Fw.Val.F (Fw.val_bin rfl rfl Fw.b_lss) (by omega)) rfl ?_
                    refine Fw.s (Fw.val_pickF rfl rfl) rfl ?_
                    refine Fw.s (Fw.val_move rfl) rfl ?_
                    refine Fw.gT (d := 130) rfl rfl ?_
                    refine Fw.s (Fw.val_fieldAddr fl32_9 rfl rfl) rfl ?_
                    refine Fw.gT (d := 130) rfl rfl ?_
                    refine Fw.ld sc2 rfl (HXu.cell 9) rfl ?_
                    refine Fw.gT (d := 130) rfl rfl ?_
                    refine Fw.s (Fw.val_fieldAddr fl32_9 rfl rfl) rfl ?_
                    refine Fw.gT (d := 130) rfl rfl ?_
                    refine Fw.ld sc2 rfl (HXw.cell 9) rfl ?_
                    refine Fw.gT (d := 130) rfl rfl ?_
                    refine Fw.s (Fw.Val.F (Fw.val_bin rfl rfl Fw.b_lss) (by omega)) rfl ?_
                    refine Fw.s (Fw.val_pickF rfl rfl) rfl ?_
                    refine Fw.s (Fw.val_move rfl) rfl ?_
                    refine Fw.gT (d := 137) rfl rfl ?_
                    refine Fw.s (Fw.val_fieldAddr fl32_9 rfl rfl) rfl ?_
                    refine Fw.gT (d := 137) rfl rfl ?_
                    refine Fw.ld sc2 rfl (HXu.cell 9) rfl ?_
                    refine Fw.gT (d := 137) rfl rfl ?_
                    refine Fw.s (Fw.val_fieldAddr fl32_8 rfl rfl) rfl ?_
                    refine Fw.gT (d := 137) rfl rfl ?_
                    refine Fw.ld sc2 rfl (HXu.cell 8) rfl ?_
                    refine Fw.gT (d := 137) rfl rfl ?_
                    refine Fw.s (Fw.Val.F (Fw.val_bin rfl rfl Fw.b_gtr) (by omega)) rfl ?_
                    refine Fw.s (Fw.val_pickF rfl rfl) rfl ?_
                    refine Fw.nil ?_
                    refine hK71 _ _ (Fw.FC.sub (f' := [(143, _), (142, _), (141, _), (140, _), (139, _), (138, _), (135, _), (134, _), (133, _), (132, _), (131, _), (128, _), (127, _), (126, _), (125, _), (124, _), (116, _), (115, _), (114, _), (113, _), (110, _), (109, _), (108, _), (107, _), (106, _), (103, _), (102, _), (101, _), (95, _), (94, _), (93, _), (90, _), (89, _), (88, _), (82, _), (81, _), (80, _), (79, _), (78, _), (77, _), (76, _), (75, _), (72, _), (71, _), (70, _), (69, _), (68, _), (55, _), (54, _), (53, _), (9, _), (8, _), (37, _), (36, _), (35, _), (5, _)]) (.cons rfl (.cons rfl (.cons rfl (.cons rfl (.cons rfl (.cons rfl (.cons rfl (.cons rfl (.cons rfl (.cons rfl (.cons rfl (.cons rfl (.cons rfl (.cons rfl (.cons rfl (.cons rfl (.cons rfl (.cons rfl (.cons rfl (.cons rfl (.cons rfl (.cons rfl (.cons rfl (.cons rfl (.cons rfl (.cons rfl (.cons rfl (.cons rfl (.cons rfl (.cons rfl (.cons rfl (.cons rfl (.cons rfl (.cons rfl (.cons rfl (.cons rfl (.cons rfl (.cons rfl (.cons rfl (.cons rfl (.cons rfl (.cons rfl (.cons rfl (.cons rfl (.cons rfl (.cons rfl (.cons rfl (.cons rfl (.cons rfl (.cons rfl (.cons rfl (.cons rfl (.cons rfl (.cons rfl (.cons rfl (.cons rfl .nil)))))))))))))))))))))))))))))))))))))))))))))))))))))))) ?_)
                    refine Fw.condF rfl ?_
                    refine Fw.skip ?_
                    refine Fw.X_blockN ?_
                    refine hK32 _ _ ?_
                    refine Fw.region ?_
                    refine Fw.s (Fw.val_bin rfl rfl (Fw.b_add (Fw.i64_ok (by omega)))) rfl ?_
                    refine Fw.s (Fw.val_move rfl) rfl ?_
                    refine Fw.nil ?_
                    refine Fw.roundEnd _ _ (by omega) ⟨j + 1, rfl, hjn, HR, HXa, HO1, HO2, HB, rfl⟩ (.cons rfl (.cons rfl (.cons rfl (.cons rfl (.cons rfl (.cons rfl (.cons rfl (.cons rfl (.cons rfl .nil)))))))))
                  · rintro m4
                    refine Fw.s (Fw.val_pickT rfl rfl) rfl ?_
                    refine Fw.s (Fw.val_move rfl) rfl ?_
                    refine Fw.gF (d := 112) rfl rfl rfl rfl ?_
                    refine Fw.gF (d := 112) rfl rfl rfl rfl ?_
                    refine Fw.gF (d := 112) rfl rfl rfl rfl ?_
                    refine Fw.gF (d := 112) rfl rfl rfl rfl ?_
                    refine Fw.s (Fw.val_pickF rfl rfl) rfl ?_
                    refine Fw.nil ?_
                    refine hK68 _ _ (Fw.FC.sub (f' := [(117, _), (116, _), (115, _), (114, _), (113, _), (110, _), (109, _), (108, _), (107, _), (106, _), (103, _), (102, _), (101, _), (95, _), (94, _), (93, _), (90, _), (89, _), (88, _), (82, _), (81, _), (80, _), (79, _), (78, _), (77, _), (76, _), (75, _), (72, _), (71, _), (70, _), (69, _), (68, _), (13, _), (12, _), (55, _), (54, _), (53, _), (9, _), (8, _), (37, _), (36, _), (35, _), (5, _)]) (.cons rfl (.cons rfl (.cons rfl (.cons rfl (.cons rfl (.cons rfl (.cons rfl (.cons rfl (.cons rfl (.cons rfl (.cons rfl (.cons rfl (.cons rfl (.cons rfl (.cons rfl (.cons rfl (.cons rfl (.cons rfl (.cons rfl (.cons rfl (.cons rfl (.cons rfl (.cons rfl (.cons rfl (.cons rfl (.cons rfl (.cons rfl (.cons rfl (.cons rfl (.cons rfl (.cons rfl (.cons rfl (.cons rfl (.cons rfl (.cons rfl (.cons rfl (.cons rfl (.cons rfl (.cons rfl (.cons rfl (.cons rfl (.cons rfl (.cons rfl .nil))))))))))))))))))))))))))))))))))))))))))) ?_)
                    refine Fw.condF rfl ?_
                    refine Fw.skip ?_
                    refine hK67 _ _ ?_
                    refine Fw.seq fun _ hK72 => ?_
                    refine Fw.region ?_
                    refine Fw.s (Fw.val_fieldAddr fl32_8 rfl rfl) rfl ?_
                    refine Fw.ld sc2 rfl (HXu.cell 8) rfl ?_
                    refine Fw.s (Fw.val_fieldAddr fl32_8 rfl rfl) rfl ?_
                    refine Fw.ld sc2 rfl (HXw.cell 8) rfl ?_
                    refine Fw.s (Fw.Val.F (Fw.val_bin rfl rfl Fw.b_lss) (by omega)) rfl ?_
                    refine Fw.s (Fw.val_move rfl) rfl ?_
                    refine Fw.gT (d := 123) rfl rfl ?_
                    refine Fw.s (Fw.val_fieldAddr fl32_5 rfl rfl) rfl ?_
                    refine Fw.gT (d := 123) rfl rfl ?_
                    refine Fw.ld sc2 rfl (HXu.cell 5) rfl ?_
                    refine Fw.gT (d := 123) rfl rfl ?_
                    refine Fw.s (Fw.val_fieldAddr fl32_5 rfl rfl) rfl ?_
                    refine Fw.gT (d := 123) rfl rfl ?_
                    refine Fw.ld sc2 rfl (HXw.cell 5) rfl ?_
                    refine Fw.gT (d := 123) rfl rfl ?_
                    refine Fw.s (Fw.Val.F (Fw.val_bin rfl rfl Fw.b_lss) (by omega)) rfl ?_
                    refine Fw.s (Fw.val_pickF rfl rfl) rfl ?_
                    refine Fw.s (Fw.val_move rfl) rfl ?_
                    refine Fw.gT (d := 130) rfl rfl ?_
                    refine Fw.s (Fw.val_fieldAddr fl32_9 rfl rfl) rfl ?_
                    refine Fw.gT (d := 130) rfl rfl ?_
                    refine Fw.ld sc2 rfl (HXu.cell 9) rfl ?_
                    refine Fw.gT (d := 130) rfl rfl ?_
                    refine Fw.s (Fw.val_fieldAddr fl32_9 rfl rfl) rfl ?_
                    refine Fw.gT (d := 130) rfl rfl ?_
                    refine Fw.ld sc2 rfl (HXw.cell 9) rfl ?_
                    refine Fw.gT (d := 130) rfl rfl ?_
                    refine Fw.s (Fw.Val.F (Fw.val_bin rfl rfl Fw.b_lss) (by omega)) rfl ?_
                    refine Fw.s (Fw.val_pickF rfl rfl) rfl ?_
                    refine Fw.s (Fw.val_move rfl) rfl ?_
                    refine Fw.gT (d := 137) rfl rfl ?_
                    refine Fw.s (Fw.val_fieldAddr fl32_9 rfl rfl) rfl ?_
                    refine Fw.gT (d := 137) rfl rfl ?_
                    refine Fw.ld sc2 rfl (HXu.cell 9) rfl ?_
                    refine Fw.gT (d := 137) rfl rfl ?_
                    refine Fw.s (Fw.val_fieldAddr fl32_8 rfl rfl) rfl ?_
                    refine Fw.gT (d := 137) rfl rfl ?_
                    refine Fw.ld sc2 rfl (HXu.cell 8) rfl ?_
                    refine Fw.gT (d := 137) rfl rfl ?_
                    refine Fw.s (Fw.Val.F (Fw.val_bin rfl rfl Fw.b_gtr) (by omega)) rfl ?_
                    refine Fw.s (Fw.val_pickF rfl rfl) rfl ?_
                    refine Fw.nil ?_
                    refine hK72 _ _ (Fw.FC.sub (f' := [(143, _), (142, _), (141, _), (140, _), (139, _), (138, _), (135, _), (134, _), (133, _), (132, _), (131, _), (128, _), (127, _), (126, _), (125, _), (124, _), (116, _), (115, _), (114, _), (113, _), (110, _), (109, _), (108, _), (107, _), (106, _), (103, _), (102, _), (101, _), (95, _), (94, _), (93, _), (90, _), (89, _), (88, _), (82, _), (81, _), (80, _), (79, _), (78, _), (77, _), (76, _), (75, _), (72, _), (71, _), (70, _), (69, _), (68, _), (55, _), (54, _), (53, _), (9, _), (8, _), (37, _), (36, _), (35, _), (5, _)]) (.cons rfl (.cons rfl (.cons rfl (.cons rfl (.cons rfl (.cons rfl (.cons rfl (.cons rfl (.cons rfl (.cons rfl (.cons rfl (.cons rfl (.cons rfl (.cons rfl (.cons rfl (.cons rfl (.cons rfl (.cons rfl (.cons rfl (.cons rfl (.cons rfl (.cons rfl (.cons rfl (.cons rfl (.cons rfl (.cons rfl (.cons rfl (.cons rfl (.cons rfl (.cons rfl (.cons rfl (.cons rfl (.cons rfl (.cons rfl (.cons rfl (.cons rfl (.cons rfl (.cons rfl (.cons rfl (.cons rfl (.cons rfl (.cons rfl (.cons rfl (.cons rfl (.cons rfl (.cons rfl (.cons rfl (.cons rfl (.cons rfl (.cons rfl (.cons rfl (.cons rfl (.cons rfl (.cons rfl (.cons rfl (.cons rfl .nil)))))))))))))))))))))))))))))))))))))))))))))))))))))))) ?_)
                    refine Fw.condF rfl ?_
                    refine Fw.skip ?_
                    refine Fw.X_blockN ?_
                    refine hK32 _ _ ?_
                    refine Fw.region ?_
                    refine Fw.s (Fw.val_bin rfl rfl (Fw.b_add (Fw.i64_ok (by omega)))) rfl ?_
                    refine Fw.s (Fw.val_move rfl) rfl ?_
                    refine Fw.nil ?_
                    refine Fw.roundEnd _ _ (by omega) ⟨j + 1, rfl, hjn, HR, HXa, HO1, HO2, HB, rfl⟩ (.cons rfl (.cons rfl (.cons rfl (.cons rfl (.cons rfl (.cons rfl (.cons rfl (.cons rfl (.cons rfl .nil)))))))))
                · rintro m3
                  refine Fw.s (Fw.val_pickT rfl rfl) rfl ?_
                  refine Fw.s (Fw.val_move rfl) rfl ?_
                  refine Fw.gF (d := 105) rfl rfl rfl rfl ?_
                  refine Fw.gF (d := 105) rfl rfl rfl rfl ?_
                  refine Fw.gF (d := 105) rfl rfl rfl rfl ?_
                  refine Fw.gF (d := 105) rfl rfl rfl rfl ?_
                  refine Fw.gF (d := 105) rfl rfl rfl rfl ?_
                  refine Fw.s (Fw.val_pickF rfl rfl) rfl ?_
                  refine Fw.s (Fw.val_move rfl) rfl ?_
                  refine Fw.gF (d := 112) rfl rfl rfl rfl ?_
                  refine Fw.gF (d := 112) rfl rfl rfl rfl ?_
                  refine Fw.gF (d := 112) rfl rfl rfl rfl ?_
                  refine Fw.gF (d := 112) rfl rfl rfl rfl ?_
                  refine Fw.s (Fw.val_pickF rfl rfl) rfl ?_
                  refine Fw.nil ?_
                  refine hK68 _ _ (Fw.FC.sub (f' := [(117, _), (116, _), (115, _), (114, _), (113, _), (110, _), (109, _), (108, _), (107, _), (106, _), (103, _), (102, _), (101, _), (95, _), (94, _), (93, _), (90, _), (89, _), (88, _), (82, _), (81, _), (80, _), (79, _), (78, _), (77, _), (76, _), (75, _), (72, _), (71, _), (70, _), (69, _), (68, _), (13, _), (12, _), (55, _), (54, _), (53, _), (9, _), (8, _), (37, _), (36, _), (35, _), (5, _)]) (.cons rfl (.cons rfl (.cons rfl (.cons rfl (.cons rfl (.cons rfl (.cons rfl (.cons rfl (.cons rfl (.cons rfl (.cons rfl (.cons rfl (.cons rfl (.cons rfl (.cons rfl (.cons rfl (.cons rfl (.cons rfl (.cons rfl (.cons rfl (.cons rfl (.cons rfl (.cons rfl (.cons rfl (.cons rfl (.cons rfl (.cons rfl (.cons rfl (.cons rfl (.cons rfl (.cons rfl (.cons rfl (.cons rfl (.cons rfl (.cons rfl (.cons rfl (.cons rfl (.cons rfl (.cons rfl (.cons rfl (.cons rfl (.cons rfl (.cons rfl .nil))))))))))))))))))))))))))))))))))))))))))) ?_)
                  refine Fw.condF rfl ?_
                  refine Fw.skip ?_
                  refine hK67 _ _ ?_
                  refine Fw.seq fun _ hK73 => ?_
                  refine Fw.region ?_
                  refine Fw.s (Fw.val_fieldAddr fl32_8 rfl rfl) rfl ?_
                  refine Fw.ld sc2 rfl (HXu.cell 8) rfl ?_
                  refine Fw.s (Fw.val_fieldAddr fl32_8 rfl rfl) rfl ?_
                  refine Fw.ld sc2 rfl (HXw.cell 8) rfl ?_
                  refine Fw.s (Fw.Val.F (Fw.val_bin rfl rfl Fw.b_lss) (by omega)) rfl ?_
                  refine Fw.s (Fw.val_move rfl) rfl ?_
                  refine Fw.gT (d := 123) rfl rfl ?_
                  refine Fw.s (Fw.val_fieldAddr fl32_5 rfl rfl) rfl ?_
                  refine Fw.gT (d := 123) rfl rfl ?_
                  refine Fw.ld sc2 rfl (HXu.cell 5) rfl ?_
                  refine Fw.gT (d := 123) rfl rfl ?_
                  refine Fw.s (Fw.val_fieldAddr fl32_5 rfl rfl) rfl ?_
                  refine Fw.gT (d := 123) rfl rfl ?_
                  refine Fw.ld sc2 rfl (HXw.cell 5) rfl ?_
                  refine Fw.gT (d := 123) rfl rfl ?_
                  refine Fw.s (Fw.Val.F (Fw.val_bin rfl rfl Fw.b_lss) (by omega)) rfl ?_
                  refine Fw.s (Fw.val_pickF rfl rfl) rfl ?_
                  refine Fw.s (Fw.val_move rfl) rfl ?_
                  refine Fw.gT (d := 130) rfl rfl ?_
                  refine Fw.s (Fw.val_fieldAddr fl32_9 rfl rfl) rfl ?_
                  refine Fw.gT (d := 130) rfl rfl ?_
                  refine Fw.ld sc2 rfl (HXu.cell 9) rfl ?_
                  refine Fw.gT (d := 130) rfl rfl ?_
                  refine Fw.s (Fw.val_fieldAddr fl32_9 rfl rfl) rfl ?_
                  refine Fw.gT (d := 130) rfl rfl ?_
                  refine Fw.ld sc2 rfl (HXw.cell 9) rfl ?_
                  refine Fw.gT (d := 130) rfl rfl ?_
                  refine Fw.s (Fw.Val.F (Fw.val_bin rfl rfl Fw.b_lss) (by omega)) rfl ?_
                  refine Fw.s (Fw.val_pickF rfl rfl) rfl ?_
                  refine Fw.s (Fw.val_move rfl) rfl ?_
                  refine Fw.gT (d := 137) rfl rfl ?_
                  refine Fw.s (Fw.val_fieldAddr fl32_9 rfl rfl) rfl ?_
                  refine Fw.gT (d := 137) rfl rfl ?_
                  refine Fw.ld sc2 rfl (HXu.cell 9) rfl ?_
                  refine Fw.gT (d := 137) rfl rfl ?_
                  refine Fw.s (Fw.val_fieldAddr fl32_8 rfl rfl) rfl ?_
                  refine Fw.gT (d := 137) rfl rfl ?_
                  refine Fw.ld sc2 rfl (HXu.cell 8) rfl ?_
                  refine Fw.gT (d := 137) rfl rfl ?_
                  refine Fw.s (Fw.Val.F (Fw.val_bin rfl rfl Fw.b_gtr) (by omega)) rfl ?_
                  refine Fw.s (Fw.val_pickF rfl rfl) rfl ?_
                  refine Fw.nil ?_
                  refine hK73 _ _ (Fw.FC.sub (f' := [(143, _), (142, _), (141, _), (140, _), (139, _), (138, _), (135, _), (134, _), (133, _), (132, _), (131, _), (128, _), (127, _), (126, _), (125, _), (124, _), (116, _), (115, _), (114, _), (113, _), (110, _), (109, _), (108, _), (107, _), (106, _), (103, _), (102, _), (101, _), (95, _), (94, _), (93, _), (90, _), (89, _), (88, _), (82, _), (81, _), (80, _), (79, _), (78, _), (77, _), (76, _), (75, _), (72, _), (71, _), (70, _), (69, _), (68, _), (55, _), (54, _), (53, _), (9, _), (8, _), (37, _), (36, _), (35, _), (5, _)]) (.cons rfl (.cons rfl (.cons rfl (.cons rfl (.cons rfl (.cons rfl (.cons rfl (.cons rfl (.cons rfl (.cons rfl (.cons rfl (.cons rfl (.cons rfl (.cons rfl (.cons rfl (.cons rfl (.cons rfl (.cons rfl (.cons rfl (.cons rfl (.cons rfl (.cons rfl (.cons rfl (.cons rfl (.cons rfl (.cons rfl (.cons rfl (.cons rfl (.cons rfl (.cons rfl (.cons rfl (.cons rfl (.cons rfl (.cons rfl (.cons rfl (.cons rfl (.cons rfl (.cons rfl (.cons rfl (.cons rfl (.cons rfl (.cons rfl (.cons rfl (.cons rfl (.cons rfl (.cons rfl (.cons rfl (.cons rfl (.cons rfl (.cons rfl (.cons rfl (.cons rfl (.cons rfl (.cons rfl (.cons rfl (.cons rfl .nil)))))))))))))))))))))))))))))))))))))))))))))))))))))))) ?_)
                  refine Fw.condF rfl ?_
                  refine Fw.skip ?_
                  refine Fw.X_blockN ?_
                  refine hK32 _ _ ?_
                  refine Fw.region ?_
                  refine Fw.s (Fw.val_bin rfl rfl (Fw.b_add (Fw.i64_ok (by omega)))) rfl ?_
                  refine Fw.s (Fw.val_move rfl) rfl ?_
                  refine Fw.nil ?_
                  refine Fw.roundEnd _ _ (by omega) ⟨j + 1, rfl, hjn, HR, HXa, HO1, HO2, HB, rfl⟩ (.cons rfl (.cons rfl (.cons rfl (.cons rfl (.cons rfl (.cons rfl (.cons rfl (.cons rfl (.cons rfl .nil)))))))))
          · rintro hj
            refine Fw.nil ?_
            refine hK29 _ _ ?_
            refine Fw.seq fun _ hK74 => ?_
            refine Fw.condF rfl ?_
            refine Fw.exit ?_
            refine Fw.X_exit ?_
            refine Fw.X_exit ?_
            refine Fw.X_block ?_
            refine Fw.X_blockN ?_
            refine hK19 _ _ ?_
            refine Fw.region ?_
            refine Fw.s (Fw.val_bin rfl rfl (Fw.b_add (Fw.i64_ok (by omega)))) rfl ?_
            refine Fw.s (Fw.val_move rfl) rfl ?_
            refine Fw.nil ?_
            rw [← Us.playL_snoc (Us.newL cf) acts k hkn] at HR
            refine Fw.roundEnd _ _ (by omega) ⟨k + 1, rfl, hkn, HR, HB, rfl⟩ (.cons rfl (.cons rfl (.cons rfl (.cons rfl .nil))))
        · rintro hk
          refine Fw.nil ?_
          refine hK16 _ _ ?_
          refine Fw.seq fun _ hK75 => ?_
          refine Fw.condF rfl ?_
          refine Fw.exit ?_
          refine Fw.X_exit ?_
          refine Fw.X_exit ?_
          refine Fw.X_block ?_
          refine hK13 _ _ ?_
          refine Fw.seq fun _ hK76 => ?_
          refine Fw.region ?_
          refine Fw.s (Fw.val_assign rfl) rfl ?_
          refine Fw.nil ?_
          refine hK76 _ _ ?_
          refine Fw.ret ?_
          refine Fw.ret_ [.tmp 4] [_] Try.results4 (.tmp rfl .nil) ?_
          exact ⟨rfl, HB⟩
  · skip
    refine Fw.calls Try.func4 rfl Try.ntmps4 rfl ?_
    have HB := Below.refl (w.heap.size) w
    refine Fw.seq fun _ hK1 => ?_
    refine Fw.region ?_
    refine Fw.s (Fw.val_assign rfl) rfl ?_
    refine Fw.nil ?_
    refine hK1 _ _ ?_
    refine Fw.seq fun _ hK2 => ?_
    refine Fw.seq fun _ hK3 => ?_
    refine Fw.region ?_
    refine Fw.call cf9 rfl rfl (wakes_any _) ?_
    rintro e_ w1 ⟨rfl, hb⟩
    refine ⟨_, rfl, ?_⟩
    replace HB := HB.trans (hb.mono HB.size)
    clear hb
    refine Fw.bT (by rfl) ?_
    refine Fw.s (Fw.val_not rfl) rfl ?_
    refine Fw.nil ?_
    refine hK3 _ _ ?_
    refine Fw.condF rfl ?_
    refine Fw.skip ?_
    refine hK2 _ _ ?_
    refine Fw.seq fun _ hK4 => ?_
    refine Fw.seq fun _ hK5 => ?_
    refine Fw.region ?_
    refine Fw.s (Fw.val_move rfl) rfl ?_
    refine Fw.s (Fw.val_len Try.underlying22 rfl) rfl ?_
    refine Fw.s2 (Fw.val_bin rfl rfl Fw.b_gtr) rfl ?_ ?_
    · rintro hn1
      refine Fw.s (Fw.val_move rfl) rfl ?_
      refine Fw.gF (d := 19) rfl rfl rfl rfl ?_
      refine Fw.gF (d := 19) rfl rfl rfl rfl ?_
      refine Fw.gF (d := 19) rfl rfl rfl rfl ?_
      refine Fw.s (Fw.val_pickT rfl rfl) rfl ?_
      refine Fw.nil ?_
      refine hK5 _ _ (Fw.FC.sub (f' := [(23, _), (0, _), (1, _)]) (.cons rfl (.cons rfl (.cons rfl .nil))) ?_)
      refine Fw.condT rfl ?_
      refine Fw.seq fun _ hK7 => ?_
      refine Fw.region ?_
      refine Fw.s (Fw.val_assign rfl) rfl ?_
      refine Fw.nil ?_
      refine hK7 _ _ ?_
      refine Fw.ret ?_
      refine Fw.X_ret ?_
      refine Fw.ret_ [.tmp 4] [_] Try.results4 (.tmp rfl .nil) ?_
      exact ⟨rfl, HB⟩
    · rintro hn1
      refine Fw.s (Fw.val_move rfl) rfl ?_
      refine Fw.gT (d := 19) rfl rfl ?_
      refine Fw.s (Fw.val_move rfl) rfl ?_
      refine Fw.gT (d := 19) rfl rfl ?_
      refine Fw.s (Fw.val_len Try.underlying43 rfl) rfl ?_
      refine Fw.gT (d := 19) rfl rfl ?_
      refine Fw.s2 (Fw.val_bin rfl rfl Fw.b_gtr) rfl ?_ ?_
      · rintro hn2
        refine Fw.s (Fw.val_pickF rfl rfl) rfl ?_
        refine Fw.nil ?_
        refine hK5 _ _ (Fw.FC.sub (f' := [(23, _), (0, _), (1, _)]) (.cons rfl (.cons rfl (.cons rfl .nil))) ?_)
        refine Fw.condT rfl ?_
        refine Fw.seq fun _ hK9 => ?_
        refine Fw.region ?_
        refine Fw.s (Fw.val_assign rfl) rfl ?_
        refine Fw.nil ?_
        refine hK9 _ _ ?_
        refine Fw.ret ?_
        refine Fw.X_ret ?_
        refine Fw.ret_ [.tmp 4] [_] Try.results4 (.tmp rfl .nil) ?_
        exact ⟨rfl, HB⟩
      · rintro hn2
        refine Fw.s (Fw.val_pickF rfl rfl) rfl ?_
        refine Fw.nil ?_
        refine hK5 _ _ (Fw.FC.sub (f' := [(23, _), (0, _), (1, _)]) (.cons rfl (.cons rfl (.cons rfl .nil))) ?_)
        refine Fw.condF rfl ?_
        refine Fw.skip ?_
        refine hK4 _ _ ?_
        refine Fw.seq fun _ hK10 => ?_
        refine Fw.region ?_
        refine Fw.s (Fw.val_move rfl) rfl ?_
        refine Fw.call cf10 rfl rfl (new_any _ A cf c0 (h.low HB)) ?_
        rintro e_ w2 ⟨x, rfl, hx1, -, hb⟩
        refine ⟨_, rfl, ?_⟩
        replace HB := HB.trans (hb.mono HB.size)
        clear hb
        obtain rfl := hx1 hE
        refine Fw.s (Fw.val_move rfl) rfl ?_
        refine Fw.s (Fw.val_extract rfl rfl) rfl ?_
        refine Fw.s (Fw.val_extract rfl rfl) rfl ?_
        refine Fw.s (Fw.val_assign rfl) rfl ?_
        refine Fw.s (Fw.val_assign rfl) rfl ?_
        refine Fw.nil ?_
        refine hK10 _ _ (Fw.FC.sub (f' := [(6, _), (5, _), (1, _)]) (.cons rfl (.cons rfl (.cons rfl .nil))) ?_)
        refine Fw.seq fun _ hK11 => ?_
        refine Fw.seq fun _ hK12 => ?_
        refine Fw.region ?_
        refine Fw.s (Fw.val_move rfl) rfl ?_
        refine Fw.s (Fw.Val.T (Fw.val_bin rfl rfl Fw.b_neq) (by exact hE)) rfl ?_
        refine Fw.s (Fw.val_move rfl) rfl ?_
        refine Fw.gF (d := 31) rfl rfl rfl rfl ?_
        refine Fw.gF (d := 31) rfl rfl rfl rfl ?_
        refine Fw.s (Fw.val_pickT rfl rfl) rfl ?_
        refine Fw.nil ?_
        refine hK12 _ _ ?_
        refine Fw.condT rfl ?_
        refine Fw.seq fun _ hK13 => ?_
        refine Fw.region ?_
        refine Fw.s (Fw.val_assign rfl) rfl ?_
        refine Fw.nil ?_
        refine hK13 _ _ (Fw.FC.sub (f' := [(4, _)]) (.cons rfl .nil) ?_)
        refine Fw.ret ?_
        refine Fw.X_ret ?_
        refine Fw.ret_ [.tmp 4] [_] Try.results4 (.tmp rfl .nil) ?_
        exact ⟨rfl, HB⟩

end Go.Proofs.Ytmohhociomghhaa
