/- Layer 27: the law of pending orders. -/
import Derived.Test.YtmohhociomghhaaUsZ
namespace Go.Proofs.Ytmohhociomghhaa
set_option linter.unusedSimpArgs false
set_option linter.unusedVariables false
open Go.RowKit

namespace Us
theorem repL_len (l : List U) (s : S) (now e : Int) : (repL l s now e).length = l.length := by
  unfold repL
  split
  · exact put_len _ _ _
  · rfl
theorem pend_at {l : List U} {id : Int} {i : Nat} (hid : id = i) (hi : i < l.length) : pend l id = decide (l[i].ack < l[i].ep) := by
  unfold pend; rw [get_at hid hi, show there l id = true from decide_eq_true (by omega)]; rfl
/-- the report that the law makes is taken, and answers the order -/
theorem ack_report {l : List U} {i : Nat} (hi : i < l.length) (hv : Inv l[i]) (h1 : l[i].ep < 1099511627776) (h2 : l[i].seq < 1099511627776) :
    repE l ⟨i, l[i].seq + 1, 3, l[i].node, l[i].ep⟩ l[i].heard (l[i].ep + 1) = 0 ∧ pend (repL l ⟨i, l[i].seq + 1, 3, l[i].node, l[i].ep⟩ l[i].heard (l[i].ep + 1)) i = false ∧ ∀ j, i < j → (repL l ⟨i, l[i].seq + 1, 3, l[i].node, l[i].ep⟩ l[i].heard (l[i].ep + 1))[j]? = l[j]? := by
  have ht : there l (i : Int) = true := decide_eq_true (by omega)
  have hg : get l (i : Int) = l[i] := get_at rfl hi
  obtain ⟨a1, a2, a3, a4, a5, a6, a7, a8⟩ := hv
  have hE : repE l ⟨i, l[i].seq + 1, 3, l[i].node, l[i].ep⟩ l[i].heard (l[i].ep + 1) = 0 := by
    unfold repE
    simp only [ht, hg, Bool.true_and]
    rw [show repB l[i] ⟨i, l[i].seq + 1, 3, l[i].node, l[i].ep⟩ = true by unfold repB; simp only [a7]; rw [show says 3 = true by decide, decide_eq_true (show 1 ≤ l[i].seq + 1 by omega), decide_eq_true (show 0 ≤ l[i].ep ∧ l[i].ep ≤ l[i].ep by omega)]; rfl, a8, show epB l[i] (l[i].ep + 1) = true from decide_eq_true (by omega)]
    simp only [Bool.and_self, if_true]
    rw [if_neg (by omega)]
  refine ⟨hE, ?_, fun j hj => ?_⟩
  · unfold repL; rw [if_pos hE]
    rw [pend_at (i := i) rfl (by rw [put_len]; exact hi)]
    apply decide_eq_false
    have : (put l (i : Int) (repU (get l (i : Int)) ⟨i, l[i].seq + 1, 3, l[i].node, l[i].ep⟩ l[i].heard (l[i].ep + 1)))[i]'(by rw [put_len]; exact hi) = repU l[i] ⟨i, l[i].seq + 1, 3, l[i].node, l[i].ep⟩ l[i].heard (l[i].ep + 1) := by
      simp [put, hg]
    rw [this]
    simp [repU, rep1]
    omega
  · unfold repL; rw [if_pos hE]; unfold put
    rw [List.getElem?_set_ne (by simp; omega)]
end Us
set_option maxRecDepth 100000 in
set_option maxHeartbeats 1000000 in
theorem pending_any (w : World) (A : Option Addr) (cf : List Us.Cfg) (c0 : Nat) (A2 : Option Addr) (acts : List Us.Act) (c2 : Nat) (h : Rd w A (cf.flatMap Us.Cfg.cells)) (h2 : Rd w A2 (acts.flatMap Us.Act.cells)) : Calls Try.prog 5 #[.slice A cf.length c0, .slice A2 acts.length c2] w fun e_ w' => e_ = .returned (.bool true) ∧ Below w.heap.size w w' := by
  by_cases hE : Us.newE cf = 0
  · skip
    refine Fw.calls Try.func5 rfl Try.ntmps5 rfl ?_
    have HB := Below.refl (w.heap.size) w
    refine Fw.seq fun _ hK1 => ?_
    refine Fw.region ?_
    refine Fw.s (Fw.val_assign rfl) rfl ?_
    refine Fw.nil ?_
    refine hK1 _ _ ?_
    refine Fw.seq fun _ hK2 => ?_
    refine Fw.seq fun _ hK3 => ?_
    refine Fw.region ?_
    refine Fw.call cf9 rfl rfl (wakes_any _) ?_
    rintro e_ w1 ⟨rfl, hb⟩
    refine ⟨_, rfl, ?_⟩
    replace HB := HB.trans (hb.mono HB.size)
    clear hb
    refine Fw.bT (by rfl) ?_
    refine Fw.s (Fw.val_not rfl) rfl ?_
    refine Fw.nil ?_
    refine hK3 _ _ ?_
    refine Fw.condF rfl ?_
    refine Fw.skip ?_
    refine hK2 _ _ ?_
    refine Fw.seq fun _ hK4 => ?_
    refine Fw.seq fun _ hK5 => ?_
    refine Fw.region ?_
    refine Fw.s (Fw.val_move rfl) rfl ?_
    refine Fw.s (Fw.val_len Try.underlying22 rfl) rfl ?_
    refine Fw.s2 (Fw.val_bin rfl rfl Fw.b_gtr) rfl ?_ ?_
    · rintro hn1
      refine Fw.s (Fw.val_move rfl) rfl ?_
      refine Fw.gF (d := 20) rfl rfl rfl rfl ?_
      refine Fw.gF (d := 20) rfl rfl rfl rfl ?_
      refine Fw.gF (d := 20) rfl rfl rfl rfl ?_
      refine Fw.s (Fw.val_pickT rfl rfl) rfl ?_
      refine Fw.nil ?_
      refine hK5 _ _ (Fw.FC.sub (f' := [(24, _), (0, _), (1, _)]) (.cons rfl (.cons rfl (.cons rfl .nil))) ?_)
      refine Fw.condT rfl ?_
      refine Fw.seq fun _ hK7 => ?_
      refine Fw.region ?_
      refine Fw.s (Fw.val_assign rfl) rfl ?_
      refine Fw.nil ?_
      refine hK7 _ _ ?_
      refine Fw.ret ?_
      refine Fw.X_ret ?_
      refine Fw.ret_ [.tmp 4] [_] Try.results5 (.tmp rfl .nil) ?_
      exact ⟨rfl, HB⟩
    · rintro hn1
      refine Fw.s (Fw.val_move rfl) rfl ?_
      refine Fw.gT (d := 20) rfl rfl ?_
      refine Fw.s (Fw.val_move rfl) rfl ?_
      refine Fw.gT (d := 20) rfl rfl ?_
      refine Fw.s (Fw.val_len Try.underlying43 rfl) rfl ?_
      refine Fw.gT (d := 20) rfl rfl ?_
      refine Fw.s2 (Fw.val_bin rfl rfl Fw.b_gtr) rfl ?_ ?_
      · rintro hn2
        refine Fw.s (Fw.val_pickF rfl rfl) rfl ?_
        refine Fw.nil ?_
        refine hK5 _ _ (Fw.FC.sub (f' := [(24, _), (0, _), (1, _)]) (.cons rfl (.cons rfl (.cons rfl .nil))) ?_)
        refine Fw.condT rfl ?_
        refine Fw.seq fun _ hK9 => ?_
        refine Fw.region ?_
        refine Fw.s (Fw.val_assign rfl) rfl ?_
        refine Fw.nil ?_
        refine hK9 _ _ ?_
        refine Fw.ret ?_
        refine Fw.X_ret ?_
        refine Fw.ret_ [.tmp 4] [_] Try.results5 (.tmp rfl .nil) ?_
        exact ⟨rfl, HB⟩
      · rintro hn2
        refine Fw.s (Fw.val_pickF rfl rfl) rfl ?_
        refine Fw.nil ?_
        refine hK5 _ _ (Fw.FC.sub (f' := [(24, _), (0, _), (1, _)]) (.cons rfl (.cons rfl (.cons rfl .nil))) ?_)
        refine Fw.condF rfl ?_
        refine Fw.skip ?_
        refine hK4 _ _ ?_
        refine Fw.seq fun _ hK10 => ?_
        refine Fw.region ?_
        refine Fw.s (Fw.val_move rfl) rfl ?_
        refine Fw.s (Fw.val_move rfl) rfl ?_
        refine Fw.call cf17 rfl rfl (play_any _ A cf c0 A2 acts c2 (h.low HB) (h2.low HB) (by omega)) ?_
        rintro e_ w2 ⟨x, rfl, hx, hb⟩
        refine ⟨_, rfl, ?_⟩
        have hs0 := HB.size
        replace HB := HB.trans (hb.mono HB.size)
        clear hb
        obtain ⟨hle, p, g, rfl, HR⟩ := hx hE
        replace HR := HR.mono hs0
        have lp := HR.1
        have lg := HR.2.1
        rw [decide_eq_true hE]
        obtain ⟨L, hL⟩ : ∃ L, L = Us.playL (Us.newL cf) acts := ⟨_, rfl⟩
        rw [← hL] at HR
        have hG : Us.Good L := hL ▸ (Us.good_new hE).play acts
        have hLl : L.length = cf.length := by rw [hL, Us.playL_len, Us.newL_len]
        refine Fw.s (Fw.val_move rfl) rfl ?_
        refine Fw.s (Fw.val_extract rfl rfl) rfl ?_
        refine Fw.s (Fw.val_extract rfl rfl) rfl ?_
        refine Fw.bT (by rfl) ?_
        refine Fw.s (Fw.val_assign rfl) rfl ?_
        refine Fw.s (Fw.val_assign rfl) rfl ?_
        refine Fw.nil ?_
        refine hK10 _ _ (Fw.FC.sub (f' := [(6, _), (5, _)]) (.cons rfl (.cons rfl .nil)) ?_)
        refine Fw.seq fun _ hK11 => ?_
        refine Fw.seq fun _ hK12 => ?_
        refine Fw.region ?_
        refine Fw.s (Fw.val_move rfl) rfl ?_
        refine Fw.s (Fw.val_not rfl) rfl ?_
        refine Fw.nil ?_
        refine hK12 _ _ ?_
        refine Fw.condF rfl ?_
        refine Fw.skip ?_
        refine hK11 _ _ ?_
        refine Fw.seq fun _ hK13 => ?_
        refine Fw.seq fun _ hK14 => ?_
        refine Fw.region ?_
        refine Fw.s (Fw.val_move rfl) rfl ?_
        refine Fw.call cf15 rfl rfl (all_any w2 w.heap.size p g cf.length L HR (by omega)) ?_
        rintro e_ w3 ⟨AO1, cO1, rfl, HO1, hb⟩
        refine ⟨_, rfl, ?_⟩
        have hlg1 := HR.lt
        replace HR := HR.low hb
        replace HB := HB.trans (hb.mono HB.size)
        clear hb
        have ng_HO1 : ∀ g_, AO1.map (·.block) = some g_ → g_ ≠ g := fun g_ h_ e_ => by have := (HO1.lt g_ (by rw [ownBlock_slice]; exact h_)).1; omega
        refine Fw.s (Fw.val_len Try.underlying48 rfl) rfl ?_
        refine Fw.s (Fw.val_move rfl) rfl ?_
        refine Fw.nil ?_
        refine hK14 _ _ ?_
        refine Fw.block ?_
        refine Fw.loop (fun m_ f_ W_ => ∃ (k : Nat) (M_ : List Us.U), m_ = L.length - k ∧ k ≤ L.length ∧ M_.length = L.length ∧ (∀ j, k ≤ j → M_[j]? = L[j]?) ∧ RegAt W_ w.heap.size p g cf.length M_ ∧ W_.ownsRow w2.heap.size 32 10 (.slice AO1 L.length cO1) L.length (L.flatMap Us.U.head) ∧ Below (w.heap.size) w W_ ∧ f_ = [(36, .int .i64 k), (35, .int .i64 L.length), (34, .slice AO1 L.length cO1), (5, .pointer (some ⟨p, 0, none⟩))]) ⟨_, _, ⟨0, L, rfl, Nat.zero_le _, rfl, fun _ _ => rfl, HR, HO1, HB, rfl⟩, (.cons rfl (.cons rfl (.cons rfl (.cons rfl .nil))))⟩ ?_
        clear HR HO1 HB
        rintro m15_ _ w4 ⟨k, M_, hm15_, hkl, hMl, hMs, HR, HO1, HB, rfl⟩
        refine Fw.seq fun _ hK16 => ?_
        refine Fw.region ?_
        refine Fw.s2 (Fw.val_bin rfl rfl Fw.b_lss) rfl ?_ ?_
        · rintro hk
          refine Fw.nil ?_
          refine hK16 _ _ ?_
          refine Fw.seq fun _ hK18 => ?_
          refine Fw.condT rfl ?_
          refine Fw.skip ?_
          refine hK18 _ _ ?_
          refine Fw.seq fun _ hK19 => ?_
          refine Fw.block ?_
          refine Fw.seq fun _ hK20 => ?_
          have hkn : k < L.length := by omega
          have hkm : k < M_.length := by omega
          have hMk : M_[k] = L[k] := by
            have := hMs k (Nat.le_refl k)
            rw [List.getElem?_eq_getElem hkm, List.getElem?_eq_getElem hkn] at this
            exact Option.some.inj this
          have hv := (hG k _ (List.getElem?_eq_getElem hkn)).1
          have hvid := (hG k _ (List.getElem?_eq_getElem hkn)).2
          have hpd : Us.pend M_ (k : Int) = decide (L[k].ack < L[k].ep) := by rw [Us.pend_at rfl hkm, hMk]
          obtain ⟨ad, b_, o, hA, hadd, HE⟩ := Fw.rdAt Us.U.hlen (by decide) (Rd.of_own HO1) k hkn
          obtain ⟨q1, q2, q3, q4, q5, hO5⟩ := Us.ordI_five M_ (k : Int)
          have hO : Us.ordA M_ (k : Int) = [.int .i64 q1, .int .i64 q2, .int .i64 q3, .int .i64 q4, .int .i64 q5] := by unfold Us.ordA; rw [hO5]; rfl
          have hq1 : Us.pend M_ (k : Int) = true → q1 = k ∧ q2 = L[k].ep ∧ 1 ≤ q3 ∧ q3 ≤ 3 := fun hp => by
            have hlt : L[k].ack < L[k].ep := of_decide_eq_true (hpd ▸ hp)
            have := hv.ord hlt
            have e5 := hO5
            unfold Us.ordI at e5
            rw [if_pos hp, Us.get_at rfl hkm, hMk] at e5
            simp only [Us.U.ordI, List.cons.injEq] at e5
            omega
          have hq0 : Us.pend M_ (k : Int) = false → q1 = 0 ∧ q2 = 0 ∧ q3 = 0 ∧ q4 = 0 ∧ q5 = 0 := fun hp => by
            have e5 := hO5
            unfold Us.ordI at e5
            rw [if_neg (by rw [hp]; decide)] at e5
            simp only [Us.U.ordI, Us.zero, List.cons.injEq] at e5
            omega
          refine Fw.region ?_
          refine Fw.s (Fw.val_move rfl) rfl ?_
          refine Fw.s (Fw.val_indexR Try.underlying48 sz32 rfl hA rfl rfl hkn hadd) rfl ?_
          refine Fw.ldA ag32 rfl (HE) rfl rfl ?_
          refine Fw.alloc ze32 rfl ?_
          intro w5 gX8 egX8 HX8 hb
          have fr_HR_gX8 := HR.fresh egX8
          have fr_HO1_gX8 := own_fresh HO1 egX8
          have lgX8 : w.heap.size ≤ gX8 := by have := HB.size; omega
          clear HE
          replace HR := HR.low hb
          replace HO1 := own_below HO1 hb (Nat.le_refl _)
          replace HB := HB.trans (hb.mono HB.size)
          clear hb
          clear egX8
          refine Fw.s (Fw.val_assign rfl) rfl ?_
          refine Fw.storeW sz32 rfl rfl HX8 rfl rfl (by exact Fw.oneCells rfl) ?_
          intro w6 N_ hc
          replace HR := HR.chg hc fr_HR_gX8.1 fr_HR_gX8.2
          replace HO1 := own_to HO1 hc (fun g_ h_ e_ => fr_HO1_gX8 (by rw [h_, e_]))
          replace HB := HB.trans (hc.below (B := w.heap.size) (fun k e => by omega) HB.size)
          clear hc
          clear HX8
          have HX8 := N_
          clear N_
          refine Fw.nil ?_
          refine hK20 _ _ ?_
          refine Fw.seq fun _ hK22 => ?_
          refine Fw.region ?_
          refine Fw.s (Fw.val_move rfl) rfl ?_
          refine Fw.s (Fw.val_move rfl) rfl ?_
          refine Fw.call cf13 rfl rfl (by have this := pendingOrder_any w6 w.heap.size p g cf.length M_ (k : Int) HR; rw [hO] at this; exact this) ?_
          rintro e_ w7 ⟨rfl, hb⟩
          refine ⟨_, rfl, ?_⟩
          replace HR := HR.low hb
          replace HO1 := own_below HO1 hb (Nat.le_refl _)
          replace HX8 := HX8.low hb
          replace HB := HB.trans (hb.mono HB.size)
          clear hb
          refine Fw.s (Fw.val_move rfl) rfl ?_
          refine Fw.s (Fw.val_extract rfl rfl) rfl ?_
          refine Fw.s (Fw.val_extract rfl rfl) rfl ?_
          refine Fw.b2 ?_ ?_
          · rintro hp
            refine Fw.alloc ze36 rfl ?_
            intro w8 gX9 egX9 HX9 hb
            have fr_HR_gX9 := HR.fresh egX9
            have fr_HO1_gX9 := own_fresh HO1 egX9
            have n_gX8_gX9 : gX8 < gX9 := by have := HX8.lt; omega
            have lgX9 : w.heap.size ≤ gX9 := by have := HB.size; omega
            replace HR := HR.low hb
            replace HO1 := own_below HO1 hb (Nat.le_refl _)
            replace HX8 := HX8.low hb
            replace HB := HB.trans (hb.mono HB.size)
            clear hb
            clear egX9
            refine Fw.storeW sz36 rfl rfl HX9 rfl rfl (by exact Fw.oneCells rfl) ?_
            intro w9 N_ hc
            replace HR := HR.chg hc fr_HR_gX9.1 fr_HR_gX9.2
            replace HO1 := own_to HO1 hc (fun g_ h_ e_ => fr_HO1_gX9 (by rw [h_, e_]))
            replace HX8 := HX8.chg hc (by omega)
            replace HB := HB.trans (hc.below (B := w.heap.size) (fun k e => by omega) HB.size)
            clear hc
            clear HX9
            have HX9 := N_
            clear N_
            refine Fw.s (Fw.val_assign rfl) rfl ?_
            refine Fw.nil ?_
            refine hK22 _ _ (Fw.FC.sub (f' := [(10, _), (9, _), (7, _), (8, _), (36, _), (35, _), (34, _), (5, _)]) (.cons rfl (.cons rfl (.cons rfl (.cons rfl (.cons rfl (.cons rfl (.cons rfl (.cons rfl .nil)))))))) ?_)
            refine Fw.seq fun _ hK23 => ?_
            refine Fw.seq fun _ hK24 => ?_
            have hlt : L[k].ack < L[k].ep := of_decide_eq_true (hpd ▸ hp)
            obtain ⟨z1, z2, z3, z4⟩ := hq1 hp
            refine Fw.region ?_
            refine Fw.s (Fw.val_move rfl) rfl ?_
            refine Fw.s (Fw.val_fieldAddr fl32_9 rfl rfl) rfl ?_
            refine Fw.ld sc2 rfl (HX8.cell 9) rfl ?_
            refine Fw.s (Fw.val_fieldAddr fl32_8 rfl rfl) rfl ?_
            refine Fw.ld sc2 rfl (HX8.cell 8) rfl ?_
            refine Fw.s (Fw.Val.T (Fw.val_bin rfl rfl Fw.b_lss) (by omega)) rfl ?_
            refine Fw.s (Fw.Val.F (Fw.val_bin rfl rfl (Fw.b_neqB Try.underlying4)) (by decide)) rfl ?_
            refine Fw.s (Fw.val_move rfl) rfl ?_
            refine Fw.gT (d := 54) rfl rfl ?_
            refine Fw.s (Fw.val_move rfl) rfl ?_
            refine Fw.gT (d := 54) rfl rfl ?_
            refine Fw.s (Fw.val_move rfl) rfl ?_
            refine Fw.gT (d := 56) rfl rfl ?_
            refine Fw.s (Fw.val_fieldAddr fl36_1 rfl rfl) rfl ?_
            refine Fw.gT (d := 56) rfl rfl ?_
            refine Fw.ld sc2 rfl (HX9.cell 1) rfl ?_
            refine Fw.gT (d := 56) rfl rfl ?_
            refine Fw.s (Fw.val_fieldAddr fl32_8 rfl rfl) rfl ?_
            refine Fw.gT (d := 56) rfl rfl ?_
            refine Fw.ld sc2 rfl (HX8.cell 8) rfl ?_
            refine Fw.gT (d := 56) rfl rfl ?_
            refine Fw.s (Fw.Val.F (Fw.val_bin rfl rfl Fw.b_neq) (by omega)) rfl ?_
            refine Fw.gT (d := 56) rfl rfl ?_
            refine Fw.s (Fw.val_move rfl) rfl ?_
            refine Fw.gT (d := 62) rfl rfl ?_
            refine Fw.s (Fw.val_fieldAddr fl36_0 rfl rfl) rfl ?_
            refine Fw.gT (d := 62) rfl rfl ?_
            refine Fw.ld sc3 rfl (HX9.cell 0) rfl ?_
            refine Fw.gT (d := 62) rfl rfl ?_
            refine Fw.s (Fw.val_move rfl) rfl ?_
            refine Fw.gT (d := 62) rfl rfl ?_
            refine Fw.s (Fw.Val.F (Fw.val_bin rfl rfl Fw.b_neq) (by omega)) rfl ?_
            refine Fw.gT (d := 56) rfl rfl ?_
            refine Fw.s (Fw.val_pickF rfl rfl) rfl ?_
            refine Fw.gT (d := 56) rfl rfl ?_
            refine Fw.s (Fw.val_move rfl) rfl ?_
            refine Fw.gT (d := 68) rfl rfl ?_
            refine Fw.s (Fw.val_fieldAddr fl36_2 rfl rfl) rfl ?_
            refine Fw.gT (d := 68) rfl rfl ?_
            refine Fw.ld sc3 rfl (HX9.cell 2) rfl ?_
            refine Fw.gT (d := 68) rfl rfl ?_
            refine Fw.s (Fw.Val.F (Fw.val_bin rfl rfl Fw.b_lss) (by omega)) rfl ?_
            refine Fw.gT (d := 56) rfl rfl ?_
            refine Fw.s (Fw.val_pickF rfl rfl) rfl ?_
            refine Fw.gT (d := 56) rfl rfl ?_
            refine Fw.s (Fw.val_move rfl) rfl ?_
            refine Fw.gT (d := 73) rfl rfl ?_
            refine Fw.s (Fw.val_fieldAddr fl36_2 rfl rfl) rfl ?_
            refine Fw.gT (d := 73) rfl rfl ?_
            refine Fw.ld sc3 rfl (HX9.cell 2) rfl ?_
            refine Fw.gT (d := 73) rfl rfl ?_
            refine Fw.s (Fw.Val.F (Fw.val_bin rfl rfl Fw.b_gtr) (by omega)) rfl ?_
            refine Fw.gT (d := 56) rfl rfl ?_
            refine Fw.s (Fw.val_pickF rfl rfl) rfl ?_
            refine Fw.gT (d := 54) rfl rfl ?_
            refine Fw.s (Fw.val_pickT rfl rfl) rfl ?_
            refine Fw.s (Fw.val_pickF rfl rfl) rfl ?_
            refine Fw.s (Fw.val_move rfl) rfl ?_
            refine Fw.gT (d := 80) rfl rfl ?_
            refine Fw.s (Fw.val_move rfl) rfl ?_
            refine Fw.gT (d := 80) rfl rfl ?_
            refine Fw.s (Fw.val_not rfl) rfl ?_
            refine Fw.gT (d := 80) rfl rfl ?_
            refine Fw.s (Fw.val_move rfl) rfl ?_
            refine Fw.gF (d := 83) rfl rfl rfl rfl ?_
            refine Fw.gF (d := 83) rfl rfl rfl rfl ?_
            refine Fw.gF (d := 83) rfl rfl rfl rfl ?_
            refine Fw.gT (d := 80) rfl rfl ?_
            refine Fw.s (Fw.val_pickF rfl rfl) rfl ?_
            refine Fw.s (Fw.val_pickF rfl rfl) rfl ?_
            refine Fw.nil ?_
            refine hK24 _ _ (Fw.FC.sub (f' := [(88, _), (87, _), (86, _), (85, _), (84, _), (83, _), (82, _), (81, _), (78, _), (77, _), (76, _), (75, _), (74, _), (73, _), (72, _), (71, _), (70, _), (69, _), (68, _), (67, _), (66, _), (65, _), (64, _), (63, _), (62, _), (61, _), (60, _), (59, _), (58, _), (57, _), (56, _), (55, _), (10, _), (7, _), (8, _), (36, _), (35, _), (34, _), (5, _)]) (.cons rfl (.cons rfl (.cons rfl (.cons rfl (.cons rfl (.cons rfl (.cons rfl (.cons rfl (.cons rfl (.cons rfl (.cons rfl (.cons rfl (.cons rfl (.cons rfl (.cons rfl (.cons rfl (.cons rfl (.cons rfl (.cons rfl (.cons rfl (.cons rfl (.cons rfl (.cons rfl (.cons rfl (.cons rfl (.cons rfl (.cons rfl (.cons rfl (.cons rfl (.cons rfl (.cons rfl (.cons rfl (.cons rfl (.cons rfl (.cons rfl (.cons rfl (.cons rfl (.cons rfl (.cons rfl .nil))))))))))))))))))))))))))))))))))))))) ?_)
            refine Fw.condF rfl ?_
            refine Fw.skip ?_
            refine hK23 _ _ ?_
            refine Fw.seq fun _ hK25 => ?_
            refine Fw.seq fun _ hK26 => ?_
            refine Fw.region ?_
            refine Fw.s (Fw.val_move rfl) rfl ?_
            refine Fw.s (Fw.val_not rfl) rfl ?_
            refine Fw.s (Fw.val_move rfl) rfl ?_
            refine Fw.gT (d := 91) rfl rfl ?_
            refine Fw.s (Fw.val_fieldAddr fl32_8 rfl rfl) rfl ?_
            refine Fw.gT (d := 91) rfl rfl ?_
            refine Fw.ld sc2 rfl (HX8.cell 8) rfl ?_
            refine Fw.gT (d := 91) rfl rfl ?_
            refine Fw.s2 (Fw.val_bin rfl rfl Fw.b_geq) rfl ?_ ?_
            · rintro m1
              refine Fw.s (Fw.val_pickF rfl rfl) rfl ?_
              refine Fw.s (Fw.val_move rfl) rfl ?_
              refine Fw.gF (d := 96) rfl rfl rfl rfl ?_
              refine Fw.gF (d := 96) rfl rfl rfl rfl ?_
              refine Fw.gF (d := 96) rfl rfl rfl rfl ?_
              refine Fw.s (Fw.val_pickT rfl rfl) rfl ?_
              refine Fw.nil ?_
              refine hK26 _ _ (Fw.FC.sub (f' := [(100, _), (99, _), (98, _), (97, _), (94, _), (93, _), (92, _), (87, _), (86, _), (85, _), (84, _), (83, _), (82, _), (81, _), (78, _), (77, _), (76, _), (75, _), (74, _), (73, _), (72, _), (71, _), (70, _), (69, _), (68, _), (67, _), (66, _), (65, _), (64, _), (63, _), (62, _), (61, _), (60, _), (59, _), (58, _), (57, _), (56, _), (55, _), (7, _), (8, _), (36, _), (35, _), (34, _), (5, _)]) (.cons rfl (.cons rfl (.cons rfl (.cons rfl (.cons rfl (.cons rfl (.cons rfl (.cons rfl (.cons rfl (.cons rfl (.cons rfl (.cons rfl (.cons rfl (.cons rfl (.cons rfl (.cons rfl (.cons rfl (.cons rfl (.cons rfl (.cons rfl (.cons rfl (.cons rfl (.cons rfl (.cons rfl (.cons rfl (.cons rfl (.cons rfl (.cons rfl (.cons rfl (.cons rfl (.cons rfl (.cons rfl (.cons rfl (.cons rfl (.cons rfl (.cons rfl (.cons rfl (.cons rfl (.cons rfl (.cons rfl (.cons rfl (.cons rfl (.cons rfl (.cons rfl .nil)))))))))))))))))))))))))))))))))))))))))))) ?_)
              refine Fw.condT rfl ?_
              refine Fw.exit ?_
              refine Fw.X_exit ?_
              refine Fw.X_block ?_
              refine hK19 _ _ ?_
              refine Fw.region ?_
              refine Fw.s (Fw.val_bin rfl rfl (Fw.b_add (Fw.i64_ok (by omega)))) rfl ?_
              refine Fw.s (Fw.val_move rfl) rfl ?_
              refine Fw.nil ?_
              refine Fw.roundEnd _ _ (by omega) ⟨k + 1, M_, rfl, hkn, hMl, fun j hj => hMs j (by omega), HR, HO1, HB, rfl⟩ (.cons rfl (.cons rfl (.cons rfl (.cons rfl .nil))))
            · rintro m1
              refine Fw.s (Fw.val_pickF rfl rfl) rfl ?_
              refine Fw.s (Fw.val_move rfl) rfl ?_
              refine Fw.gT (d := 96) rfl rfl ?_
              refine Fw.s (Fw.val_fieldAddr fl32_5 rfl rfl) rfl ?_
              refine Fw.gT (d := 96) rfl rfl ?_
              refine Fw.ld sc2 rfl (HX8.cell 5) rfl ?_
              refine Fw.gT (d := 96) rfl rfl ?_
              refine Fw.s2 (Fw.val_bin rfl rfl Fw.b_geq) rfl ?_ ?_
              · rintro m2
                refine Fw.s (Fw.val_pickF rfl rfl) rfl ?_
                refine Fw.nil ?_
                refine hK26 _ _ (Fw.FC.sub (f' := [(100, _), (99, _), (98, _), (97, _), (94, _), (93, _), (92, _), (87, _), (86, _), (85, _), (84, _), (83, _), (82, _), (81, _), (78, _), (77, _), (76, _), (75, _), (74, _), (73, _), (72, _), (71, _), (70, _), (69, _), (68, _), (67, _), (66, _), (65, _), (64, _), (63, _), (62, _), (61, _), (60, _), (59, _), (58, _), (57, _), (56, _), (55, _), (7, _), (8, _), (36, _), (35, _), (34, _), (5, _)]) (.cons rfl (.cons rfl (.cons rfl (.cons rfl (.cons rfl (.cons rfl (.cons rfl (.cons rfl (.cons rfl (.cons rfl (.cons rfl (.cons rfl (.cons rfl (.cons rfl (.cons rfl (.cons rfl (.cons rfl (.cons rfl (.cons rfl (.cons rfl (.cons rfl (.cons rfl (.cons rfl (.cons rfl (.cons rfl (.cons rfl (.cons rfl (.cons rfl (.cons rfl (.cons rfl (.cons rfl (.cons rfl (.cons rfl (.cons rfl (.cons rfl (.cons rfl (.cons rfl (.cons rfl (.cons rfl (.cons rfl (.cons rfl (.cons rfl (.cons rfl (.cons rfl .nil)))))))))))))))))))))))))))))))))))))))))))) ?_)
                refine Fw.condT rfl ?_
                refine Fw.exit ?_
                refine Fw.X_exit ?_
                refine Fw.X_block ?_
                refine hK19 _ _ ?_
                refine Fw.region ?_
                refine Fw.s (Fw.val_bin rfl rfl (Fw.b_add (Fw.i64_ok (by omega)))) rfl ?_
                refine Fw.s (Fw.val_move rfl) rfl ?_
                refine Fw.nil ?_
                refine Fw.roundEnd _ _ (by omega) ⟨k + 1, M_, rfl, hkn, hMl, fun j hj => hMs j (by omega), HR, HO1, HB, rfl⟩ (.cons rfl (.cons rfl (.cons rfl (.cons rfl .nil))))
              · rintro m2
                refine Fw.s (Fw.val_pickF rfl rfl) rfl ?_
                refine Fw.nil ?_
                refine hK26 _ _ (Fw.FC.sub (f' := [(100, _), (99, _), (98, _), (97, _), (94, _), (93, _), (92, _), (87, _), (86, _), (85, _), (84, _), (83, _), (82, _), (81, _), (78, _), (77, _), (76, _), (75, _), (74, _), (73, _), (72, _), (71, _), (70, _), (69, _), (68, _), (67, _), (66, _), (65, _), (64, _), (63, _), (62, _), (61, _), (60, _), (59, _), (58, _), (57, _), (56, _), (55, _), (7, _), (8, _), (36, _), (35, _), (34, _), (5, _)]) (.cons rfl (.cons rfl (.cons rfl (.cons rfl (.cons rfl (.cons rfl (.cons rfl (.cons rfl (.cons rfl (.cons rfl (.cons rfl (.cons rfl (.cons rfl (.cons rfl (.cons rfl (.cons rfl (.cons rfl (.cons rfl (.cons rfl (.cons rfl (.cons rfl (.cons rfl (.cons rfl (.cons rfl (.cons rfl (.cons rfl (.cons rfl (.cons rfl (.cons rfl (.cons rfl (.cons rfl (.cons rfl (.cons rfl (.cons rfl (.cons rfl (.cons rfl (.cons rfl (.cons rfl (.cons rfl (.cons rfl (.cons rfl (.cons rfl (.cons rfl (.cons rfl .nil)))))))))))))))))))))))))))))))))))))))))))) ?_)
                refine Fw.condF rfl ?_
                refine Fw.skip ?_
                refine hK25 _ _ ?_
                refine Fw.seq fun _ hK29 => ?_
                refine Fw.seq fun _ hK30 => ?_
                have hv1 := hv.ack
                have hv2 := hv.ack0
                have hv3 := hv.seq
                have hr := Us.ack_report hkm (hMk ▸ hv) (by rw [hMk]; omega) (by rw [hMk]; omega)
                rw [hMk] at hr
                refine Fw.region ?_
                refine Fw.s (Fw.val_move rfl) rfl ?_
                refine Fw.s (Fw.val_move rfl) rfl ?_
                refine Fw.s (Fw.val_fieldAddr fl32_5 rfl rfl) rfl ?_
                refine Fw.ld sc2 rfl (HX8.cell 5) rfl ?_
                refine Fw.s (Fw.val_bin rfl rfl (Fw.b_add (Fw.i64_ok (by omega)))) rfl ?_
                refine Fw.s (Fw.val_fieldAddr fl32_4 rfl rfl) rfl ?_
                refine Fw.ld sc3 rfl (HX8.cell 4) rfl ?_
                refine Fw.s (Fw.val_fieldAddr fl32_8 rfl rfl) rfl ?_
                refine Fw.ld sc2 rfl (HX8.cell 8) rfl ?_
                refine Fw.s (Fw.val_build (ps := [(0, _), (1, _), (2, _), (3, _), (4, _)]) rfl (bu45_0_1_2_3_4 _ _ _ _ _)) rfl ?_
                refine Fw.s (Fw.val_fieldAddr fl32_6 rfl rfl) rfl ?_
                refine Fw.ld sc2 rfl (HX8.cell 6) rfl ?_
                refine Fw.s (Fw.val_fieldAddr fl32_8 rfl rfl) rfl ?_
                refine Fw.ld sc2 rfl (HX8.cell 8) rfl ?_
                refine Fw.s (Fw.val_bin rfl rfl (Fw.b_add (Fw.i64_ok (by omega)))) rfl ?_
                refine Fw.call cf18 rfl rfl (report_any _ w.heap.size p g cf.length M_ ⟨k, L[k].seq + 1, 3, L[k].node, L[k].ep⟩ L[k].heard (L[k].ep + 1) HR) ?_
                rintro e_ w10 ⟨rfl, HR2, hc⟩
                refine ⟨_, rfl, ?_⟩
                replace HO1 := own_to HO1 hc (fun g_ h_ e_ => ng_HO1 g_ h_ e_)
                replace HX8 := HX8.chg hc (by omega)
                replace HX9 := HX9.chg hc (by omega)
                replace HB := HB.trans (hc.below (B := w.heap.size) (fun k e => by omega) HB.size)
                clear hc
                clear HR
                have HR := HR2
                clear HR2
                refine Fw.s (Fw.val_move rfl) rfl ?_
                refine Fw.s (Fw.val_extract rfl rfl) rfl ?_
                refine Fw.s (Fw.val_extract rfl rfl) rfl ?_
                refine Fw.s (Fw.val_assign rfl) rfl ?_
                refine Fw.s (Fw.val_assign rfl) rfl ?_
                refine Fw.nil ?_
                refine hK30 _ _ (Fw.FC.sub (f' := [(12, _), (99, _), (98, _), (97, _), (94, _), (93, _), (92, _), (87, _), (86, _), (85, _), (84, _), (83, _), (82, _), (81, _), (78, _), (77, _), (76, _), (75, _), (74, _), (73, _), (72, _), (71, _), (70, _), (69, _), (68, _), (67, _), (66, _), (65, _), (64, _), (63, _), (62, _), (61, _), (60, _), (59, _), (58, _), (57, _), (56, _), (55, _), (7, _), (36, _), (35, _), (34, _), (5, _)]) (.cons rfl (.cons rfl (.cons rfl (.cons rfl (.cons rfl (.cons rfl (.cons rfl (.cons rfl (.cons rfl (.cons rfl (.cons rfl (.cons rfl (.cons rfl (.cons rfl (.cons rfl (.cons rfl (.cons rfl (.cons rfl (.cons rfl (.cons rfl (.cons rfl (.cons rfl (.cons rfl (.cons rfl (.cons rfl (.cons rfl (.cons rfl (.cons rfl (.cons rfl (.cons rfl (.cons rfl (.cons rfl (.cons rfl (.cons rfl (.cons rfl (.cons rfl (.cons rfl (.cons rfl (.cons rfl (.cons rfl (.cons rfl (.cons rfl (.cons rfl .nil))))))))))))))))))))))))))))))))))))))))))) ?_)
                refine Fw.seq fun _ hK31 => ?_
                refine Fw.region ?_
                refine Fw.s (Fw.val_move rfl) rfl ?_
                refine Fw.s (Fw.Val.F (Fw.val_bin rfl rfl Fw.b_neq) (by rw [hr.1]; decide)) rfl ?_
                refine Fw.nil ?_
                refine hK31 _ _ ?_
                refine Fw.condF rfl ?_
                refine Fw.skip ?_
                refine hK29 _ _ ?_
                refine Fw.seq fun _ hK32 => ?_
                refine Fw.region ?_
                refine Fw.s (Fw.val_move rfl) rfl ?_
                refine Fw.s (Fw.val_move rfl) rfl ?_
                refine Fw.call cf13 rfl rfl (pend_no _ w.heap.size p g cf.length (Us.repL M_ ⟨k, L[k].seq + 1, 3, L[k].node, L[k].ep⟩ L[k].heard (L[k].ep + 1)) (k : Int) hr.2.1 HR) ?_
                rintro e_ w11 ⟨rfl, hb⟩
                refine ⟨_, rfl, ?_⟩
                replace HR := HR.low hb
                replace HO1 := own_below HO1 hb (Nat.le_refl _)
                replace HX8 := HX8.low hb
                replace HX9 := HX9.low hb
                replace HB := HB.trans (hb.mono HB.size)
                clear hb
                refine Fw.s (Fw.val_move rfl) rfl ?_
                refine Fw.s (Fw.val_extract rfl rfl) rfl ?_
                refine Fw.s (Fw.val_extract rfl rfl) rfl ?_
                refine Fw.bF (by rfl) ?_
                refine Fw.alloc ze36 rfl ?_
                intro w12 gX13 egX13 HX13 hb
                have fr_HR_gX13 := HR.fresh egX13
                have fr_HO1_gX13 := own_fresh HO1 egX13
                have n_gX8_gX13 : gX8 < gX13 := by have := HX8.lt; omega
                have n_gX9_gX13 : gX9 < gX13 := by have := HX9.lt; omega
                have lgX13 : w.heap.size ≤ gX13 := by have := HB.size; omega
                replace HR := HR.low hb
                replace HO1 := own_below HO1 hb (Nat.le_refl _)
                replace HX8 := HX8.low hb
                replace HX9 := HX9.low hb
                replace HB := HB.trans (hb.mono HB.size)
                clear hb
                clear egX13
                refine Fw.storeW sz36 rfl rfl HX13 rfl rfl (by exact Fw.oneCells rfl) ?_
                intro w13 N_ hc
                replace HR := HR.chg hc fr_HR_gX13.1 fr_HR_gX13.2
                replace HO1 := own_to HO1 hc (fun g_ h_ e_ => fr_HO1_gX13 (by rw [h_, e_]))
                replace HX8 := HX8.chg hc (by omega)
                replace HX9 := HX9.chg hc (by omega)
                replace HB := HB.trans (hc.below (B := w.heap.size) (fun k e => by omega) HB.size)
                clear hc
                clear HX13
                have HX13 := N_
                clear N_
                refine Fw.s (Fw.val_assign rfl) rfl ?_
                refine Fw.nil ?_
                refine hK32 _ _ (Fw.FC.sub (f' := [(14, _), (99, _), (98, _), (97, _), (94, _), (93, _), (92, _), (87, _), (86, _), (85, _), (84, _), (83, _), (82, _), (81, _), (78, _), (77, _), (76, _), (75, _), (74, _), (73, _), (72, _), (71, _), (70, _), (69, _), (68, _), (67, _), (66, _), (65, _), (64, _), (63, _), (62, _), (61, _), (60, _), (59, _), (58, _), (57, _), (56, _), (55, _), (36, _), (35, _), (34, _), (5, _)]) (.cons rfl (.cons rfl (.cons rfl (.cons rfl (.cons rfl (.cons rfl (.cons rfl (.cons rfl (.cons rfl (.cons rfl (.cons rfl (.cons rfl (.cons rfl (.cons rfl (.cons rfl (.cons rfl (.cons rfl (.cons rfl (.cons rfl (.cons rfl (.cons rfl (.cons rfl (.cons rfl (.cons rfl (.cons rfl (.cons rfl (.cons rfl (.cons rfl (.cons rfl (.cons rfl (.cons rfl (.cons rfl (.cons rfl (.cons rfl (.cons rfl (.cons rfl (.cons rfl (.cons rfl (.cons rfl (.cons rfl (.cons rfl (.cons rfl .nil)))))))))))))))))))))))))))))))))))))))))) ?_)
                refine Fw.seq fun _ hK33 => ?_
                refine Fw.region ?_
                refine Fw.s (Fw.val_move rfl) rfl ?_
                refine Fw.nil ?_
                refine hK33 _ _ ?_
                refine Fw.condF rfl ?_
                refine Fw.skip ?_
                refine Fw.X_blockN ?_
                refine hK19 _ _ ?_
                refine Fw.region ?_
                refine Fw.s (Fw.val_bin rfl rfl (Fw.b_add (Fw.i64_ok (by omega)))) rfl ?_
                refine Fw.s (Fw.val_move rfl) rfl ?_
                refine Fw.nil ?_
                refine Fw.roundEnd _ _ (by omega) ⟨k + 1, Us.repL M_ ⟨k, L[k].seq + 1, 3, L[k].node, L[k].ep⟩ L[k].heard (L[k].ep + 1), rfl, hkn, by rw [Us.repL_len]; exact hMl, fun j hj => by rw [hr.2.2 j (by omega)]; exact hMs j (by omega), HR, HO1, HB, rfl⟩ (.cons rfl (.cons rfl (.cons rfl (.cons rfl .nil))))
          · rintro hp
            refine Fw.alloc ze36 rfl ?_
            intro w14 gX9 egX9 HX9 hb
            have fr_HR_gX9 := HR.fresh egX9
            have fr_HO1_gX9 := own_fresh HO1 egX9
            have n_gX8_gX9 : gX8 < gX9 := by have := HX8.lt; omega
            have lgX9 : w.heap.size ≤ gX9 := by have := HB.size; omega
            replace HR := HR.low hb
            replace HO1 := own_below HO1 hb (Nat.le_refl _)
            replace HX8 := HX8.low hb
            replace HB := HB.trans (hb.mono HB.size)
            clear hb
            clear egX9
            refine Fw.storeW sz36 rfl rfl HX9 rfl rfl (by exact Fw.oneCells rfl) ?_
            intro w15 N_ hc
            replace HR := HR.chg hc fr_HR_gX9.1 fr_HR_gX9.2
            replace HO1 := own_to HO1 hc (fun g_ h_ e_ => fr_HO1_gX9 (by rw [h_, e_]))
            replace HX8 := HX8.chg hc (by omega)
            replace HB := HB.trans (hc.below (B := w.heap.size) (fun k e => by omega) HB.size)
            clear hc
            clear HX9
            have HX9 := N_
            clear N_
            refine Fw.s (Fw.val_assign rfl) rfl ?_
            refine Fw.nil ?_
            refine hK22 _ _ (Fw.FC.sub (f' := [(10, _), (9, _), (7, _), (8, _), (36, _), (35, _), (34, _), (5, _)]) (.cons rfl (.cons rfl (.cons rfl (.cons rfl (.cons rfl (.cons rfl (.cons rfl (.cons rfl .nil)))))))) ?_)
            refine Fw.seq fun _ hK34 => ?_
            refine Fw.seq fun _ hK35 => ?_
            have hlt : ¬ L[k].ack < L[k].ep := of_decide_eq_false (hpd ▸ hp)
            obtain ⟨rfl, rfl, rfl, rfl, rfl⟩ := hq0 hp
            refine Fw.region ?_
            refine Fw.s (Fw.val_move rfl) rfl ?_
            refine Fw.s (Fw.val_fieldAddr fl32_9 rfl rfl) rfl ?_
            refine Fw.ld sc2 rfl (HX8.cell 9) rfl ?_
            refine Fw.s (Fw.val_fieldAddr fl32_8 rfl rfl) rfl ?_
            refine Fw.ld sc2 rfl (HX8.cell 8) rfl ?_
            refine Fw.s (Fw.Val.F (Fw.val_bin rfl rfl Fw.b_lss) (by omega)) rfl ?_
            refine Fw.s (Fw.Val.F (Fw.val_bin rfl rfl (Fw.b_neqB Try.underlying4)) (by decide)) rfl ?_
            refine Fw.s (Fw.val_move rfl) rfl ?_
            refine Fw.gT (d := 54) rfl rfl ?_
            refine Fw.s (Fw.val_move rfl) rfl ?_
            refine Fw.gT (d := 54) rfl rfl ?_
            refine Fw.s (Fw.val_move rfl) rfl ?_
            refine Fw.gF (d := 56) rfl rfl rfl rfl ?_
            refine Fw.gF (d := 56) rfl rfl rfl rfl ?_
            refine Fw.gF (d := 56) rfl rfl rfl rfl ?_
            refine Fw.gF (d := 56) rfl rfl rfl rfl ?_
            refine Fw.gF (d := 56) rfl rfl rfl rfl ?_
            refine Fw.gF (d := 56) rfl rfl rfl rfl ?_
            refine Fw.gU (d := 62) rfl rfl rfl ?_
            refine Fw.gU (d := 62) rfl rfl rfl ?_
            refine Fw.gU (d := 62) rfl rfl rfl ?_
            refine Fw.gU (d := 62) rfl rfl rfl ?_
            refine Fw.gF (d := 56) rfl rfl rfl rfl ?_
            refine Fw.gF (d := 56) rfl rfl rfl rfl ?_
            refine Fw.gU (d := 68) rfl rfl rfl ?_
            refine Fw.gU (d := 68) rfl rfl rfl ?_
            refine Fw.gU (d := 68) rfl rfl rfl ?_
            refine Fw.gF (d := 56) rfl rfl rfl rfl ?_
            refine Fw.gF (d := 56) rfl rfl rfl rfl ?_
            refine Fw.gU (d := 73) rfl rfl rfl ?_
            refine Fw.gU (d := 73) rfl rfl rfl ?_
            refine Fw.gU (d := 73) rfl rfl rfl ?_
            refine Fw.gF (d := 56) rfl rfl rfl rfl ?_
            refine Fw.gT (d := 54) rfl rfl ?_
            refine Fw.s (Fw.val_pickF rfl rfl) rfl ?_
            refine Fw.s (Fw.val_pickF rfl rfl) rfl ?_
            refine Fw.s (Fw.val_move rfl) rfl ?_
            refine Fw.gT (d := 80) rfl rfl ?_
            refine Fw.s (Fw.val_move rfl) rfl ?_
            refine Fw.gT (d := 80) rfl rfl ?_
            refine Fw.s (Fw.val_not rfl) rfl ?_
            refine Fw.gT (d := 80) rfl rfl ?_
            refine Fw.s (Fw.val_move rfl) rfl ?_
            refine Fw.gT (d := 83) rfl rfl ?_
            refine Fw.ldA ag36 rfl (Fw.rdBlk HX9) rfl rfl ?_
            refine Fw.gT (d := 83) rfl rfl ?_
            refine Fw.s (Fw.val_build (ps := []) rfl (bu36_)) rfl ?_
            refine Fw.gT (d := 83) rfl rfl ?_
            refine Fw.s (Fw.Val.F (Fw.val_bin rfl rfl (Fw.b_neqA eq36 [0, 0, 0, 0, 0] [0, 0, 0, 0, 0] rfl rfl)) (by simp)) rfl ?_
            refine Fw.gT (d := 80) rfl rfl ?_
            refine Fw.s (Fw.val_pickT rfl rfl) rfl ?_
            refine Fw.s (Fw.val_pickF rfl rfl) rfl ?_
            refine Fw.nil ?_
            refine hK35 _ _ (Fw.FC.sub (f' := [(88, _), (87, _), (86, _), (85, _), (84, _), (83, _), (82, _), (81, _), (78, _), (77, _), (76, _), (75, _), (74, _), (73, _), (72, _), (71, _), (70, _), (69, _), (68, _), (67, _), (66, _), (65, _), (64, _), (63, _), (62, _), (61, _), (60, _), (59, _), (58, _), (57, _), (56, _), (55, _), (10, _), (7, _), (8, _), (36, _), (35, _), (34, _), (5, _)]) (.cons rfl (.cons rfl (.cons rfl (.cons rfl (.cons rfl (.cons rfl (.cons rfl (.cons rfl (.cons rfl (.cons rfl (.cons rfl (.cons rfl (.cons rfl (.cons rfl (.cons rfl (.cons rfl (.cons rfl (.cons rfl (.cons rfl (.cons rfl (.cons rfl (.cons rfl (.cons rfl (.cons rfl (.cons rfl (.cons rfl (.cons rfl (.cons rfl (.cons rfl (.cons rfl (.cons rfl (.cons rfl (.cons rfl (.cons rfl (.cons rfl (.cons rfl (.cons rfl (.cons rfl (.cons rfl .nil))))))))))))))))))))))))))))))))))))))) ?_)
            refine Fw.condF rfl ?_
            refine Fw.skip ?_
            refine hK34 _ _ ?_
            refine Fw.seq fun _ hK36 => ?_
            refine Fw.seq fun _ hK37 => ?_
            refine Fw.region ?_
            refine Fw.s (Fw.val_move rfl) rfl ?_
            refine Fw.s (Fw.val_not rfl) rfl ?_
            refine Fw.s (Fw.val_move rfl) rfl ?_
            refine Fw.gF (d := 91) rfl rfl rfl rfl ?_
            refine Fw.gF (d := 91) rfl rfl rfl rfl ?_
            refine Fw.gF (d := 91) rfl rfl rfl rfl ?_
            refine Fw.s (Fw.val_pickT rfl rfl) rfl ?_
            refine Fw.s (Fw.val_move rfl) rfl ?_
            refine Fw.gF (d := 96) rfl rfl rfl rfl ?_
            refine Fw.gF (d := 96) rfl rfl rfl rfl ?_
            refine Fw.gF (d := 96) rfl rfl rfl rfl ?_
            refine Fw.s (Fw.val_pickT rfl rfl) rfl ?_
            refine Fw.nil ?_
            refine hK37 _ _ (Fw.FC.sub (f' := [(100, _), (99, _), (98, _), (97, _), (94, _), (93, _), (92, _), (87, _), (86, _), (85, _), (84, _), (83, _), (82, _), (81, _), (78, _), (77, _), (76, _), (75, _), (74, _), (73, _), (72, _), (71, _), (70, _), (69, _), (68, _), (67, _), (66, _), (65, _), (64, _), (63, _), (62, _), (61, _), (60, _), (59, _), (58, _), (57, _), (56, _), (55, _), (7, _), (8, _), (36, _), (35, _), (34, _), (5, _)]) (.cons rfl (.cons rfl (.cons rfl (.cons rfl (.cons rfl (.cons rfl (.cons rfl (.cons rfl (.cons rfl (.cons rfl (.cons rfl (.cons rfl (.cons rfl (.cons rfl (.cons rfl (.cons rfl (.cons rfl (.cons rfl (.cons rfl (.cons rfl (.cons rfl (.cons rfl (.cons rfl (.cons rfl (.cons rfl (.cons rfl (.cons rfl (.cons rfl (.cons rfl (.cons rfl (.cons rfl (.cons rfl (.cons rfl (.cons rfl (.cons rfl (.cons rfl (.cons rfl (.cons rfl (.cons rfl (.cons rfl (.cons rfl (.cons rfl (.cons rfl (.cons rfl .nil)))))))))))))))))))))))))))))))))))))))))))) ?_)
            refine Fw.condT rfl ?_
            refine Fw.exit ?_
            refine Fw.X_exit ?_
            refine Fw.X_block ?_
            refine hK19 _ _ ?_
            refine Fw.region ?_
            refine Fw.s (Fw.val_bin rfl rfl (Fw.b_add (Fw.i64_ok (by omega)))) rfl ?_
            refine Fw.s (Fw.val_move rfl) rfl ?_
            refine Fw.nil ?_
            refine Fw.roundEnd _ _ (by omega) ⟨k + 1, M_, rfl, hkn, hMl, fun j hj => hMs j (by omega), HR, HO1, HB, rfl⟩ (.cons rfl (.cons rfl (.cons rfl (.cons rfl .nil))))
        · rintro hk
          refine Fw.nil ?_
          refine hK16 _ _ ?_
          refine Fw.seq fun _ hK38 => ?_
          refine Fw.condF rfl ?_
          refine Fw.exit ?_
          refine Fw.X_exit ?_
          refine Fw.X_exit ?_
          refine Fw.X_block ?_
          refine hK13 _ _ ?_
          refine Fw.seq fun _ hK39 => ?_
          refine Fw.region ?_
          refine Fw.s (Fw.val_assign rfl) rfl ?_
          refine Fw.nil ?_
          refine hK39 _ _ ?_
          refine Fw.ret ?_
          refine Fw.ret_ [.tmp 4] [_] Try.results5 (.tmp rfl .nil) ?_
          exact ⟨rfl, HB⟩
  · skip
    refine Fw.calls Try.func5 rfl Try.ntmps5 rfl ?_
    have HB := Below.refl (w.heap.size) w
    refine Fw.seq fun _ hK1 => ?_
    refine Fw.region ?_
    refine Fw.s (Fw.val_assign rfl) rfl ?_
    refine Fw.nil ?_
    refine hK1 _ _ ?_
    refine Fw.seq fun _ hK2 => ?_
    refine Fw.seq fun _ hK3 => ?_
    refine Fw.region ?_
    refine Fw.call cf9 rfl rfl (wakes_any _) ?_
    rintro e_ w1 ⟨rfl, hb⟩
    refine ⟨_, rfl, ?_⟩
    replace HB := HB.trans (hb.mono HB.size)
    clear hb
    refine Fw.bT (by rfl) ?_
    refine Fw.s (Fw.val_not rfl) rfl ?_
    refine Fw.nil ?_
    refine hK3 _ _ ?_
    refine Fw.condF rfl ?_
    refine Fw.skip ?_
    refine hK2 _ _ ?_
    refine Fw.seq fun _ hK4 => ?_
    refine Fw.seq fun _ hK5 => ?_
    refine Fw.region ?_
    refine Fw.s (Fw.val_move rfl) rfl ?_
    refine Fw.s (Fw.val_len Try.underlying22 rfl) rfl ?_
    refine Fw.s2 (Fw.val_bin rfl rfl Fw.b_gtr) rfl ?_ ?_
    · rintro hn1
      refine Fw.s (Fw.val_move rfl) rfl ?_
      refine Fw.gF (d := 20) rfl rfl rfl rfl ?_
      refine Fw.gF (d := 20) rfl rfl rfl rfl ?_
      refine Fw.gF (d := 20) rfl rfl rfl rfl ?_
      refine Fw.s (Fw.val_pickT rfl rfl) rfl ?_
      refine Fw.nil ?_
      refine hK5 _ _ (Fw.FC.sub (f' := [(24, _), (0, _), (1, _)]) (.cons rfl (.cons rfl (.cons rfl .nil))) ?_)
      refine Fw.condT rfl ?_
      refine Fw.seq fun _ hK7 => ?_
      refine Fw.region ?_
      refine Fw.s (Fw.val_assign rfl) rfl ?_
      refine Fw.nil ?_
      refine hK7 _ _ ?_
      refine Fw.ret ?_
      refine Fw.X_ret ?_
      refine Fw.ret_ [.tmp 4] [_] Try.results5 (.tmp rfl .nil) ?_
      exact ⟨rfl, HB⟩
    · rintro hn1
      refine Fw.s (Fw.val_move rfl) rfl ?_
      refine Fw.gT (d := 20) rfl rfl ?_
      refine Fw.s (Fw.val_move rfl) rfl ?_
      refine Fw.gT (d := 20) rfl rfl ?_
      refine Fw.s (Fw.val_len Try.underlying43 rfl) rfl ?_
      refine Fw.gT (d := 20) rfl rfl ?_
      refine Fw.s2 (Fw.val_bin rfl rfl Fw.b_gtr) rfl ?_ ?_
      · rintro hn2
        refine Fw.s (Fw.val_pickF rfl rfl) rfl ?_
        refine Fw.nil ?_
        refine hK5 _ _ (Fw.FC.sub (f' := [(24, _), (0, _), (1, _)]) (.cons rfl (.cons rfl (.cons rfl .nil))) ?_)
        refine Fw.condT rfl ?_
        refine Fw.seq fun _ hK9 => ?_
        refine Fw.region ?_
        refine Fw.s (Fw.val_assign rfl) rfl ?_
        refine Fw.nil ?_
        refine hK9 _ _ ?_
        refine Fw.ret ?_
        refine Fw.X_ret ?_
        refine Fw.ret_ [.tmp 4] [_] Try.results5 (.tmp rfl .nil) ?_
        exact ⟨rfl, HB⟩
      · rintro hn2
        refine Fw.s (Fw.val_pickF rfl rfl) rfl ?_
        refine Fw.nil ?_
        refine hK5 _ _ (Fw.FC.sub (f' := [(24, _), (0, _), (1, _)]) (.cons rfl (.cons rfl (.cons rfl .nil))) ?_)
        refine Fw.condF rfl ?_
        refine Fw.skip ?_
        refine hK4 _ _ ?_
        refine Fw.seq fun _ hK10 => ?_
        refine Fw.region ?_
        refine Fw.s (Fw.val_move rfl) rfl ?_
        refine Fw.s (Fw.val_move rfl) rfl ?_
        refine Fw.call cf17 rfl rfl (play_any _ A cf c0 A2 acts c2 (h.low HB) (h2.low HB) (by omega)) ?_
        rintro e_ w2 ⟨x, rfl, -, hb⟩
        refine ⟨_, rfl, ?_⟩
        replace HB := HB.trans (hb.mono HB.size)
        clear hb
        rw [decide_eq_false hE]
        refine Fw.s (Fw.val_move rfl) rfl ?_
        refine Fw.s (Fw.val_extract rfl rfl) rfl ?_
        refine Fw.s (Fw.val_extract rfl rfl) rfl ?_
        refine Fw.bF (by rfl) ?_
        refine Fw.s (Fw.val_assign rfl) rfl ?_
        refine Fw.s (Fw.val_assign rfl) rfl ?_
        refine Fw.nil ?_
        refine hK10 _ _ (Fw.FC.sub (f' := [(6, _), (5, _)]) (.cons rfl (.cons rfl .nil)) ?_)
        refine Fw.seq fun _ hK11 => ?_
        refine Fw.seq fun _ hK12 => ?_
        refine Fw.region ?_
        refine Fw.s (Fw.val_move rfl) rfl ?_
        refine Fw.s (Fw.val_not rfl) rfl ?_
        refine Fw.nil ?_
        refine hK12 _ _ ?_
        refine Fw.condT rfl ?_
        refine Fw.seq fun _ hK13 => ?_
        refine Fw.region ?_
        refine Fw.s (Fw.val_assign rfl) rfl ?_
        refine Fw.nil ?_
        refine hK13 _ _ ?_
        refine Fw.ret ?_
        refine Fw.X_ret ?_
        refine Fw.ret_ [.tmp 4] [_] Try.results5 (.tmp rfl .nil) ?_
        exact ⟨rfl, HB⟩

end Go.Proofs.Ytmohhociomghhaa
