/- Layer 27: the law of silence. -/
import Derived.Test.YtmohhociomghhaaUsZB
import Derived.Test.YtmohhociomghhaaFi
namespace Go.Proofs.Ytmohhociomghhaa
set_option linter.unusedSimpArgs false
set_option linter.unusedVariables false
open Go.RowKit

namespace Us
theorem mem_idx (f : U → Bool) (l : List U) (k : Nat) (hk : k < l.length) : (k : Int) ∈ idx f l ↔ f l[k] = true := by
  unfold idx
  constructor
  · intro h
    obtain ⟨x, hx, he⟩ := List.mem_map.1 h
    obtain ⟨h1, h2⟩ := List.mem_filter.1 hx
    have h3 := List.mem_zipIdx_iff_getElem?.1 h1
    have h4 : x.2 = k := by omega
    rw [h4, List.getElem?_eq_getElem hk] at h3
    injection h3 with h3
    rw [h3]; exact h2
  · intro h
    exact List.mem_map.2 ⟨(l[k], k), List.mem_filter.2 ⟨List.mem_zipIdx_iff_getElem?.2 (List.getElem?_eq_getElem hk), h⟩, rfl⟩
theorem quietL_len (l : List U) (now n e : Int) : (quietL l now n e).length = l.length := by
  unfold quietL
  split
  · exact List.length_map _
  · rfl
/-- what MarkSilent does to a unit that it names -/
theorem quiet_in {l : List U} (hg : Good l) {now n e : Int} {k : Nat} (hk : k < l.length) (h2 : k < (quietL l now n e).length) (h : (k : Int) ∈ quietW l now n e) :
    l[k].state ≠ 6 ∧ l[k].state ≠ 7 ∧ n ≤ IntKind.i64.wrap (now - l[k].heard) ∧ (quietL l now n e)[k].state = 7 ∧ (quietL l now n e)[k].inc = 0 ∧ (quietL l now n e)[k].ep = e ∧ pend (quietL l now n e) k = true ∧ ordI (quietL l now n e) k = [(k : Int), e, 2, 0, 0] := by
  unfold quietW at h
  split at h
  · next hq =>
    have hL : (late l[k] now n) = true := (mem_idx _ l k hk).1 h
    have hX : (quietL l now n e)[k] = issue { l[k] with state := 7, inc := 0 } e 2 0 0 := by
      have h0 : (quietL l now n e)[k]? = some (issue { l[k] with state := 7, inc := 0 } e 2 0 0) := by
        unfold quietL
        rw [if_pos hq, List.getElem?_map, List.getElem?_eq_getElem hk]
        simp only [Option.map_some]
        unfold quietU
        rw [if_pos hL]
      rw [List.getElem?_eq_getElem h2] at h0
      exact Option.some.inj h0
    obtain ⟨i1, hid⟩ := hg k _ (List.getElem?_eq_getElem hk)
    unfold quietOk at hq
    simp only [Bool.and_eq_true, List.all_eq_true] at hq
    have he := epB_at (hq.2.2 l[k] (List.getElem_mem hk))
    have hac := i1.ack
    have hlt := of_decide_eq_true hL
    have hp : pend (quietL l now n e) k = true := by
      rw [pend_at rfl h2, hX]
      exact decide_eq_true (by simp only [issue]; omega)
    refine ⟨hlt.1, hlt.2.1, hlt.2.2, by rw [hX]; rfl, by rw [hX]; rfl, by rw [hX]; rfl, hp, ?_⟩
    unfold ordI
    rw [if_pos hp, get_at rfl h2, hX]
    simp [U.ordI, issue, hid]
  · cases h
/-- and to the others -/
theorem quiet_out {l : List U} {now n e : Int} {k : Nat} (hk : k < l.length) (h2 : k < (quietL l now n e).length) (h : ¬ (k : Int) ∈ quietW l now n e) : (quietL l now n e)[k] = l[k] := by
  have h0 : (quietL l now n e)[k]? = some l[k] := by
    unfold quietL
    unfold quietW at h
    split
    · next hq =>
      rw [if_pos hq] at h
      rw [List.getElem?_map, List.getElem?_eq_getElem hk]
      simp only [Option.map_some]
      unfold quietU
      rw [if_neg (fun hL => h ((mem_idx _ l k hk).2 hL))]
    · exact List.getElem?_eq_getElem hk
  rw [List.getElem?_eq_getElem h2] at h0
  exact Option.some.inj h0
end Us
set_option maxRecDepth 100000 in
set_option maxHeartbeats 1000000 in
theorem silence_any (w : World) (A : Option Addr) (cf : List Us.Cfg) (c0 : Nat) (A2 : Option Addr) (acts : List Us.Act) (c2 : Nat) (h : Rd w A (cf.flatMap Us.Cfg.cells)) (h2 : Rd w A2 (acts.flatMap Us.Act.cells)) (q0 q1 q2 : Int) : Calls Try.prog 6 #[.slice A cf.length c0, .slice A2 acts.length c2, .agg #[.int .i64 q0, .int .i64 q1, .int .i64 q2]] w fun e_ w' => e_ = .returned (.bool true) ∧ Below w.heap.size w w' := by
  by_cases hE : Us.newE cf = 0
  · skip
    refine Fw.calls Try.func6 rfl Try.ntmps6 rfl ?_
    have HB := Below.refl (w.heap.size) w
    refine Fw.seq fun _ hK1 => ?_
    refine Fw.region ?_
    refine Fw.box rfl rfl ?_
    intro w1 gXq egXq HXq hb
    have lgXq : w.heap.size ≤ gXq := by have := HB.size; omega
    replace HB := HB.trans (hb.mono HB.size)
    clear hb
    clear egXq
    refine Fw.s (Fw.val_assign rfl) rfl ?_
    refine Fw.nil ?_
    refine hK1 _ _ ?_
    refine Fw.seq fun _ hK2 => ?_
    refine Fw.seq fun _ hK3 => ?_
    refine Fw.region ?_
    refine Fw.call cf9 rfl rfl (wakes_any _) ?_
    rintro e_ w2 ⟨rfl, hb⟩
    refine ⟨_, rfl, ?_⟩
    replace HXq := HXq.low hb
    replace HB := HB.trans (hb.mono HB.size)
    clear hb
    refine Fw.bT (by rfl) ?_
    refine Fw.s (Fw.val_not rfl) rfl ?_
    refine Fw.nil ?_
    refine hK3 _ _ ?_
    refine Fw.condF rfl ?_
    refine Fw.skip ?_
    refine hK2 _ _ ?_
    refine Fw.seq fun _ hK4 => ?_
    refine Fw.seq fun _ hK5 => ?_
    refine Fw.region ?_
    refine Fw.s (Fw.val_move rfl) rfl ?_
    refine Fw.s (Fw.val_len Try.underlying22 rfl) rfl ?_
    refine Fw.s2 (Fw.val_bin rfl rfl Fw.b_gtr) rfl ?_ ?_
    · rintro hn1
      refine Fw.s (Fw.val_move rfl) rfl ?_
      refine Fw.gF (d := 22) rfl rfl rfl rfl ?_
      refine Fw.gF (d := 22) rfl rfl rfl rfl ?_
      refine Fw.gF (d := 22) rfl rfl rfl rfl ?_
      refine Fw.s (Fw.val_pickT rfl rfl) rfl ?_
      refine Fw.nil ?_
      refine hK5 _ _ (Fw.FC.sub (f' := [(26, _), (5, _), (0, _), (1, _)]) (.cons rfl (.cons rfl (.cons rfl (.cons rfl .nil)))) ?_)
      refine Fw.condT rfl ?_
      refine Fw.seq fun _ hK7 => ?_
      refine Fw.region ?_
      refine Fw.s (Fw.val_assign rfl) rfl ?_
      refine Fw.nil ?_
      refine hK7 _ _ ?_
      refine Fw.ret ?_
      refine Fw.X_ret ?_
      refine Fw.ret_ [.tmp 6] [_] Try.results6 (.tmp rfl .nil) ?_
      exact ⟨rfl, HB⟩
    · rintro hn1
      refine Fw.s (Fw.val_move rfl) rfl ?_
      refine Fw.gT (d := 22) rfl rfl ?_
      refine Fw.s (Fw.val_move rfl) rfl ?_
      refine Fw.gT (d := 22) rfl rfl ?_
      refine Fw.s (Fw.val_len Try.underlying43 rfl) rfl ?_
      refine Fw.gT (d := 22) rfl rfl ?_
      refine Fw.s2 (Fw.val_bin rfl rfl Fw.b_gtr) rfl ?_ ?_
      · rintro hn2
        refine Fw.s (Fw.val_pickF rfl rfl) rfl ?_
        refine Fw.nil ?_
        refine hK5 _ _ (Fw.FC.sub (f' := [(26, _), (5, _), (0, _), (1, _)]) (.cons rfl (.cons rfl (.cons rfl (.cons rfl .nil)))) ?_)
        refine Fw.condT rfl ?_
        refine Fw.seq fun _ hK9 => ?_
        refine Fw.region ?_
        refine Fw.s (Fw.val_assign rfl) rfl ?_
        refine Fw.nil ?_
        refine hK9 _ _ ?_
        refine Fw.ret ?_
        refine Fw.X_ret ?_
        refine Fw.ret_ [.tmp 6] [_] Try.results6 (.tmp rfl .nil) ?_
        exact ⟨rfl, HB⟩
      · rintro hn2
        refine Fw.s (Fw.val_pickF rfl rfl) rfl ?_
        refine Fw.nil ?_
        refine hK5 _ _ (Fw.FC.sub (f' := [(26, _), (5, _), (0, _), (1, _)]) (.cons rfl (.cons rfl (.cons rfl (.cons rfl .nil)))) ?_)
        refine Fw.condF rfl ?_
        refine Fw.skip ?_
        refine hK4 _ _ ?_
        refine Fw.seq fun _ hK10 => ?_
        refine Fw.region ?_
        refine Fw.s (Fw.val_move rfl) rfl ?_
        refine Fw.s (Fw.val_move rfl) rfl ?_
        refine Fw.call cf17 rfl rfl (play_any _ A cf c0 A2 acts c2 (h.low HB) (h2.low HB) (by omega)) ?_
        rintro e_ w3 ⟨x, rfl, hx, hb⟩
        refine ⟨_, rfl, ?_⟩
        have hs0 := HB.size
        have hxq := HXq.lt
        replace HXq := HXq.low hb
        replace HB := HB.trans (hb.mono HB.size)
        clear hb
        obtain ⟨hle, p, g, rfl, HR⟩ := hx hE
        have lgq := HR.2.1
        replace HR := HR.mono hs0
        have lp := HR.1
        have lg := HR.2.1
        rw [decide_eq_true hE]
        obtain ⟨L, hL⟩ : ∃ L, L = Us.playL (Us.newL cf) acts := ⟨_, rfl⟩
        rw [← hL] at HR
        have hG : Us.Good L := hL ▸ (Us.good_new hE).play acts
        have hLl : L.length = cf.length := by rw [hL, Us.playL_len, Us.newL_len]
        refine Fw.s (Fw.val_move rfl) rfl ?_
        refine Fw.s (Fw.val_extract rfl rfl) rfl ?_
        refine Fw.s (Fw.val_extract rfl rfl) rfl ?_
        refine Fw.bT (by rfl) ?_
        refine Fw.s (Fw.val_assign rfl) rfl ?_
        refine Fw.s (Fw.val_assign rfl) rfl ?_
        refine Fw.nil ?_
        refine hK10 _ _ (Fw.FC.sub (f' := [(8, _), (7, _), (5, _)]) (.cons rfl (.cons rfl (.cons rfl .nil))) ?_)
        refine Fw.seq fun _ hK11 => ?_
        refine Fw.seq fun _ hK12 => ?_
        refine Fw.region ?_
        refine Fw.s (Fw.val_move rfl) rfl ?_
        refine Fw.s (Fw.val_not rfl) rfl ?_
        refine Fw.nil ?_
        refine hK12 _ _ ?_
        refine Fw.condF rfl ?_
        refine Fw.skip ?_
        refine hK11 _ _ ?_
        refine Fw.seq fun _ hK13 => ?_
        refine Fw.region ?_
        refine Fw.s (Fw.val_move rfl) rfl ?_
        refine Fw.call cf15 rfl rfl (all_any w3 w.heap.size p g cf.length L HR (by omega)) ?_
        rintro e_ w4 ⟨AO1, cO1, rfl, HO1, hb⟩
        refine ⟨_, rfl, ?_⟩
        have hlg1 := HR.lt
        replace HXq := HXq.low hb
        replace HR := HR.low hb
        replace HB := HB.trans (hb.mono HB.size)
        clear hb
        have ng_HO1 : ∀ g_, AO1.map (·.block) = some g_ → g_ ≠ g := fun g_ h_ e_ => by have := (HO1.lt g_ (by rw [ownBlock_slice]; exact h_)).1; omega
        refine Fw.s (Fw.val_assign rfl) rfl ?_
        refine Fw.nil ?_
        refine hK13 _ _ ?_
        refine Fw.seq fun _ hK14 => ?_
        refine Fw.region ?_
        refine Fw.s (Fw.val_move rfl) rfl ?_
        refine Fw.s (Fw.val_indexP (m := 0) Try.underlying57 sz2 rfl rfl rfl (by decide) rfl) rfl ?_
        refine Fw.ld sc2 rfl (HXq.cell 0) rfl ?_
        refine Fw.s (Fw.val_indexP (m := 1) Try.underlying57 sz2 rfl rfl rfl (by decide) rfl) rfl ?_
        refine Fw.ld sc2 rfl (HXq.cell 1) rfl ?_
        refine Fw.s (Fw.val_indexP (m := 2) Try.underlying57 sz2 rfl rfl rfl (by decide) rfl) rfl ?_
        refine Fw.ld sc2 rfl (HXq.cell 2) rfl ?_
        refine Fw.call cf19 rfl rfl (silent_any w4 w.heap.size p g cf.length L q0 q1 q2 HR (by omega)) ?_
        rintro e_ w5 ⟨AW, cW, rfl, HW, HR2, hc⟩
        refine ⟨_, rfl, ?_⟩
        have hlgW := HR.lt
        replace HXq := HXq.chg hc (by omega)
        replace HO1 := own_to HO1 hc (fun g_ h_ e_ => ng_HO1 g_ h_ e_)
        replace HB := HB.trans (hc.below (B := w.heap.size) (fun k e => by omega) HB.size)
        clear hc
        clear HR
        have HR := HR2
        clear HR2
        have ng_HW : ∀ g_, AW.map (·.block) = some g_ → g_ ≠ g := fun g_ h_ e_ => by have := (HW.lt g_ (by rw [ownBlock_slice]; exact h_)).1; omega
        have hwl : (Us.quietW L q0 q1 q2).length ≤ 256 := Nat.le_trans (Us.quietW_len _ _ _ _) (by omega)
        have hql : (Us.quietL L q0 q1 q2).length = L.length := Us.quietL_len _ _ _ _
        refine Fw.s (Fw.val_assign rfl) rfl ?_
        refine Fw.nil ?_
        refine hK14 _ _ (Fw.FC.sub (f' := [(10, _), (9, _), (7, _), (5, _)]) (.cons rfl (.cons rfl (.cons rfl (.cons rfl .nil)))) ?_)
        refine Fw.seq fun _ hK15 => ?_
        refine Fw.region ?_
        refine Fw.s (Fw.val_move rfl) rfl ?_
        refine Fw.call cf15 rfl rfl (all_any w5 w.heap.size p g cf.length (Us.quietL L q0 q1 q2) HR (by omega)) ?_
        rintro e_ w6 ⟨AO2, cO2, rfl, HO2, hb⟩
        refine ⟨_, rfl, ?_⟩
        have hlg2 := HR.lt
        replace HXq := HXq.low hb
        replace HR := HR.low hb
        replace HO1 := own_below HO1 hb (Nat.le_refl _)
        replace HW := own_below HW hb (Nat.le_refl _)
        replace HB := HB.trans (hb.mono HB.size)
        clear hb
        have ng_HO2 : ∀ g_, AO2.map (·.block) = some g_ → g_ ≠ g := fun g_ h_ e_ => by have := (HO2.lt g_ (by rw [ownBlock_slice]; exact h_)).1; omega
        refine Fw.s (Fw.val_assign rfl) rfl ?_
        refine Fw.nil ?_
        refine hK15 _ _ ?_
        refine Fw.seq fun _ hK16 => ?_
        refine Fw.seq fun _ hK17 => ?_
        refine Fw.region ?_
        refine Fw.s (Fw.val_move rfl) rfl ?_
        refine Fw.s (Fw.val_len Try.underlying48 rfl) rfl ?_
        refine Fw.s (Fw.val_move rfl) rfl ?_
        refine Fw.s (Fw.val_len Try.underlying48 rfl) rfl ?_
        refine Fw.s (Fw.Val.F (Fw.val_bin rfl rfl Fw.b_neq) (by simp [hql])) rfl ?_
        refine Fw.nil ?_
        refine hK17 _ _ ?_
        refine Fw.condF rfl ?_
        refine Fw.skip ?_
        refine hK16 _ _ (Fw.FC.sub (f' := [(11, _), (10, _), (9, _), (7, _), (5, _)]) (.cons rfl (.cons rfl (.cons rfl (.cons rfl (.cons rfl .nil))))) ?_)
        refine Fw.seq fun _ hK18 => ?_
        refine Fw.seq fun _ hK19 => ?_
        refine Fw.region ?_
        refine Fw.s (Fw.val_move rfl) rfl ?_
        refine Fw.s (Fw.val_len Try.underlying48 rfl) rfl ?_
        refine Fw.s (Fw.val_move rfl) rfl ?_
        refine Fw.nil ?_
        refine hK19 _ _ ?_
        refine Fw.block ?_
        refine Fw.loop (fun m_ f_ W_ => ∃ (k : Nat), m_ = (Us.quietL L q0 q1 q2).length - k ∧ k ≤ (Us.quietL L q0 q1 q2).length ∧ Blk W_ gXq 57 #[.int .i64 q0, .int .i64 q1, .int .i64 q2] ∧ RegAt W_ w.heap.size p g cf.length (Us.quietL L q0 q1 q2) ∧ W_.ownsRow w3.heap.size 32 10 (.slice AO1 L.length cO1) L.length (L.flatMap Us.U.head) ∧ W_.ownsRow w4.heap.size 3 1 (.slice AW (Us.quietW L q0 q1 q2).length cW) (Us.quietW L q0 q1 q2).length ((Us.quietW L q0 q1 q2).map (.int .i64)) ∧ W_.ownsRow w5.heap.size 32 10 (.slice AO2 (Us.quietL L q0 q1 q2).length cO2) (Us.quietL L q0 q1 q2).length ((Us.quietL L q0 q1 q2).flatMap Us.U.head) ∧ Below (w.heap.size) w W_ ∧ f_ = [(54, .int .i64 k), (53, .int .i64 (Us.quietL L q0 q1 q2).length), (52, .slice AO2 (Us.quietL L q0 q1 q2).length cO2), (10, .slice AW (Us.quietW L q0 q1 q2).length cW), (9, .slice AO1 L.length cO1), (7, .pointer (some ⟨p, 0, none⟩)), (5, .pointer (some ⟨gXq, 0, none⟩))]) ⟨_, _, ⟨0, rfl, Nat.zero_le _, HXq, HR, HO1, HW, HO2, HB, rfl⟩, (.cons rfl (.cons rfl (.cons rfl (.cons rfl (.cons rfl (.cons rfl (.cons rfl .nil)))))))⟩ ?_
        clear HXq HR HO1 HW HO2 HB
        rintro m20_ _ w7 ⟨k, hm20_, hkl, HXq, HR, HO1, HW, HO2, HB, rfl⟩
        refine Fw.seq fun _ hK21 => ?_
        refine Fw.region ?_
        refine Fw.s2 (Fw.val_bin rfl rfl Fw.b_lss) rfl ?_ ?_
        · rintro hk
          refine Fw.nil ?_
          refine hK21 _ _ ?_
          refine Fw.seq fun _ hK23 => ?_
          refine Fw.condT rfl ?_
          refine Fw.skip ?_
          refine hK23 _ _ ?_
          refine Fw.seq fun _ hK24 => ?_
          refine Fw.block ?_
          refine Fw.seq fun _ hK25 => ?_
          have hkn : k < (Us.quietL L q0 q1 q2).length := by omega
          have hkm : k < L.length := by omega
          obtain ⟨ad, b_, o, hA, hadd, HE⟩ := Fw.rdAt Us.U.hlen (by decide) (Rd.of_own HO2) k hkn
          refine Fw.region ?_
          refine Fw.s (Fw.val_move rfl) rfl ?_
          refine Fw.s (Fw.val_indexR Try.underlying48 sz32 rfl hA rfl rfl hkn hadd) rfl ?_
          refine Fw.ldA ag32 rfl (HE) rfl rfl ?_
          refine Fw.alloc ze32 rfl ?_
          intro w8 gXu egXu HXu hb
          have fr_HR_gXu := HR.fresh egXu
          have fr_HO1_gXu := own_fresh HO1 egXu
          have fr_HW_gXu := own_fresh HW egXu
          have fr_HO2_gXu := own_fresh HO2 egXu
          have n_gXq_gXu : gXq < gXu := by have := HXq.lt; omega
          have lgXu : w.heap.size ≤ gXu := by have := HB.size; omega
          clear HE
          replace HXq := HXq.low hb
          replace HR := HR.low hb
          replace HO1 := own_below HO1 hb (Nat.le_refl _)
          replace HW := own_below HW hb (Nat.le_refl _)
          replace HO2 := own_below HO2 hb (Nat.le_refl _)
          replace HB := HB.trans (hb.mono HB.size)
          clear hb
          clear egXu
          refine Fw.s (Fw.val_assign rfl) rfl ?_
          refine Fw.storeW sz32 rfl rfl HXu rfl rfl (by exact Fw.oneCells rfl) ?_
          intro w9 N_ hc
          replace HXq := HXq.chg hc (by omega)
          replace HR := HR.chg hc fr_HR_gXu.1 fr_HR_gXu.2
          replace HO1 := own_to HO1 hc (fun g_ h_ e_ => fr_HO1_gXu (by rw [h_, e_]))
          replace HW := own_to HW hc (fun g_ h_ e_ => fr_HW_gXu (by rw [h_, e_]))
          replace HO2 := own_to HO2 hc (fun g_ h_ e_ => fr_HO2_gXu (by rw [h_, e_]))
          replace HB := HB.trans (hc.below (B := w.heap.size) (fun k e => by omega) HB.size)
          clear hc
          clear HXu
          have HXu := N_
          clear N_
          refine Fw.nil ?_
          refine hK25 _ _ ?_
          refine Fw.seq fun _ hK27 => ?_
          obtain ⟨ad2, b2, o2, hA2, hadd2, HE2⟩ := Fw.rdAt Us.U.hlen (by decide) (Rd.of_own HO1) k hkm
          refine Fw.region ?_
          refine Fw.s (Fw.val_move rfl) rfl ?_
          refine Fw.s (Fw.val_move rfl) rfl ?_
          refine Fw.s (Fw.val_indexR Try.underlying48 sz32 rfl hA2 rfl rfl hkm hadd2) rfl ?_
          refine Fw.ldA ag32 rfl (HE2) rfl rfl ?_
          refine Fw.alloc ze32 rfl ?_
          intro w10 gXv egXv HXv hb
          have fr_HR_gXv := HR.fresh egXv
          have fr_HO1_gXv := own_fresh HO1 egXv
          have fr_HW_gXv := own_fresh HW egXv
          have fr_HO2_gXv := own_fresh HO2 egXv
          have n_gXq_gXv : gXq < gXv := by have := HXq.lt; omega
          have n_gXu_gXv : gXu < gXv := by have := HXu.lt; omega
          have lgXv : w.heap.size ≤ gXv := by have := HB.size; omega
          clear HE2
          replace HXq := HXq.low hb
          replace HR := HR.low hb
          replace HO1 := own_below HO1 hb (Nat.le_refl _)
          replace HW := own_below HW hb (Nat.le_refl _)
          replace HO2 := own_below HO2 hb (Nat.le_refl _)
          replace HXu := HXu.low hb
          replace HB := HB.trans (hb.mono HB.size)
          clear hb
          clear egXv
          refine Fw.storeW sz32 rfl rfl HXv rfl rfl (by exact Fw.oneCells rfl) ?_
          intro w11 N_ hc
          replace HXq := HXq.chg hc (by omega)
          replace HR := HR.chg hc fr_HR_gXv.1 fr_HR_gXv.2
          replace HO1 := own_to HO1 hc (fun g_ h_ e_ => fr_HO1_gXv (by rw [h_, e_]))
          replace HW := own_to HW hc (fun g_ h_ e_ => fr_HW_gXv (by rw [h_, e_]))
          replace HO2 := own_to HO2 hc (fun g_ h_ e_ => fr_HO2_gXv (by rw [h_, e_]))
          replace HXu := HXu.chg hc (by omega)
          replace HB := HB.trans (hc.below (B := w.heap.size) (fun k e => by omega) HB.size)
          clear hc
          clear HXv
          have HXv := N_
          clear N_
          refine Fw.nil ?_
          refine hK27 _ _ (Fw.FC.sub (f' := [(14, _), (12, _), (13, _), (54, _), (53, _), (52, _), (10, _), (9, _), (7, _), (5, _)]) (.cons rfl (.cons rfl (.cons rfl (.cons rfl (.cons rfl (.cons rfl (.cons rfl (.cons rfl (.cons rfl (.cons rfl .nil)))))))))) ?_)
          refine Fw.seq fun _ hK29 => ?_
          refine Fw.region ?_
          refine Fw.s (Fw.val_move rfl) rfl ?_
          refine Fw.s (Fw.val_move rfl) rfl ?_
          refine Fw.call cf20 rfl rfl (rhas_any _ AW (Us.quietW L q0 q1 q2) cW (k : Int) (Rd.of_own HW) (by omega)) ?_
          rintro e_ w12 ⟨rfl, hb⟩
          refine ⟨_, rfl, ?_⟩
          replace HXq := HXq.low hb
          replace HR := HR.low hb
          replace HO1 := own_below HO1 hb (Nat.le_refl _)
          replace HW := own_below HW hb (Nat.le_refl _)
          replace HO2 := own_below HO2 hb (Nat.le_refl _)
          replace HXu := HXu.low hb
          replace HXv := HXv.low hb
          replace HB := HB.trans (hb.mono HB.size)
          clear hb
          refine Fw.b2 ?_ ?_
          · rintro hin
            refine Fw.nil ?_
            refine hK29 _ _ ?_
            refine Fw.condT rfl ?_
            refine Fw.seq fun _ hK30 => ?_
            obtain ⟨z1, z2, z3, z4, z5, z6, z7, z8⟩ := Us.quiet_in hG hkm hkn (of_decide_eq_true hin)
            refine Fw.region ?_
            refine Fw.s (Fw.val_move rfl) rfl ?_
            refine Fw.s (Fw.val_move rfl) rfl ?_
            refine Fw.call cf13 rfl rfl (by have := pendingOrder_any w12 w.heap.size p g cf.length (Us.quietL L q0 q1 q2) (k : Int) HR; unfold Us.ordA at this; rw [z8, z7] at this; exact this) ?_
            rintro e_ w13 ⟨rfl, hb⟩
            refine ⟨_, rfl, ?_⟩
            replace HXq := HXq.low hb
            replace HR := HR.low hb
            replace HO1 := own_below HO1 hb (Nat.le_refl _)
            replace HW := own_below HW hb (Nat.le_refl _)
            replace HO2 := own_below HO2 hb (Nat.le_refl _)
            replace HXu := HXu.low hb
            replace HXv := HXv.low hb
            replace HB := HB.trans (hb.mono HB.size)
            clear hb
            refine Fw.s (Fw.val_move rfl) rfl ?_
            refine Fw.s (Fw.val_extract rfl rfl) rfl ?_
            refine Fw.s (Fw.val_extract rfl rfl) rfl ?_
            refine Fw.bT (by rfl) ?_
            refine Fw.alloc ze36 rfl ?_
            intro w14 gXo egXo HXo hb
            have fr_HR_gXo := HR.fresh egXo
            have fr_HO1_gXo := own_fresh HO1 egXo
            have fr_HW_gXo := own_fresh HW egXo
            have fr_HO2_gXo := own_fresh HO2 egXo
            have n_gXq_gXo : gXq < gXo := by have := HXq.lt; omega
            have n_gXu_gXo : gXu < gXo := by have := HXu.lt; omega
            have n_gXv_gXo : gXv < gXo := by have := HXv.lt; omega
            have lgXo : w.heap.size ≤ gXo := by have := HB.size; omega
            replace HXq := HXq.low hb
            replace HR := HR.low hb
            replace HO1 := own_below HO1 hb (Nat.le_refl _)
            replace HW := own_below HW hb (Nat.le_refl _)
            replace HO2 := own_below HO2 hb (Nat.le_refl _)
            replace HXu := HXu.low hb
            replace HXv := HXv.low hb
            replace HB := HB.trans (hb.mono HB.size)
            clear hb
            clear egXo
            refine Fw.storeW sz36 rfl rfl HXo rfl rfl (by exact Fw.oneCells rfl) ?_
            intro w15 N_ hc
            replace HXq := HXq.chg hc (by omega)
            replace HR := HR.chg hc fr_HR_gXo.1 fr_HR_gXo.2
            replace HO1 := own_to HO1 hc (fun g_ h_ e_ => fr_HO1_gXo (by rw [h_, e_]))
            replace HW := own_to HW hc (fun g_ h_ e_ => fr_HW_gXo (by rw [h_, e_]))
            replace HO2 := own_to HO2 hc (fun g_ h_ e_ => fr_HO2_gXo (by rw [h_, e_]))
            replace HXu := HXu.chg hc (by omega)
            replace HXv := HXv.chg hc (by omega)
            replace HB := HB.trans (hc.below (B := w.heap.size) (fun k e => by omega) HB.size)
            clear hc
            clear HXo
            have HXo := N_
            clear N_
            refine Fw.s (Fw.val_assign rfl) rfl ?_
            refine Fw.nil ?_
            refine hK30 _ _ (Fw.FC.sub (f' := [(16, _), (15, _), (14, _), (13, _), (54, _), (53, _), (52, _), (10, _), (9, _), (7, _), (5, _)]) (.cons rfl (.cons rfl (.cons rfl (.cons rfl (.cons rfl (.cons rfl (.cons rfl (.cons rfl (.cons rfl (.cons rfl (.cons rfl .nil))))))))))) ?_)
            refine Fw.seq fun _ hK31 => ?_
            refine Fw.region ?_
            refine Fw.s (Fw.val_fieldAddr fl32_3 rfl rfl) rfl ?_
            refine Fw.ld sc3 rfl (HXv.cell 3) rfl ?_
            refine Fw.s (Fw.Val.F (Fw.val_bin rfl rfl Fw.b_eql) (by omega)) rfl ?_
            refine Fw.s (Fw.val_move rfl) rfl ?_
            refine Fw.gT (d := 75) rfl rfl ?_
            refine Fw.s (Fw.val_fieldAddr fl32_3 rfl rfl) rfl ?_
            refine Fw.gT (d := 75) rfl rfl ?_
            refine Fw.ld sc3 rfl (HXv.cell 3) rfl ?_
            refine Fw.gT (d := 75) rfl rfl ?_
            refine Fw.s (Fw.Val.F (Fw.val_bin rfl rfl Fw.b_eql) (by omega)) rfl ?_
            refine Fw.s (Fw.val_pickF rfl rfl) rfl ?_
            refine Fw.s (Fw.val_move rfl) rfl ?_
            refine Fw.gT (d := 80) rfl rfl ?_
            refine Fw.s (Fw.val_fieldAddr fl32_3 rfl rfl) rfl ?_
            refine Fw.gT (d := 80) rfl rfl ?_
            refine Fw.ld sc3 rfl (HXu.cell 3) rfl ?_
            refine Fw.gT (d := 80) rfl rfl ?_
            refine Fw.s (Fw.Val.F (Fw.val_bin rfl rfl Fw.b_neq) (by omega)) rfl ?_
            refine Fw.s (Fw.val_pickF rfl rfl) rfl ?_
            refine Fw.s (Fw.val_move rfl) rfl ?_
            refine Fw.gT (d := 85) rfl rfl ?_
            refine Fw.s (Fw.val_fieldAddr fl32_7 rfl rfl) rfl ?_
            refine Fw.gT (d := 85) rfl rfl ?_
            refine Fw.ld sc2 rfl (HXu.cell 7) rfl ?_
            refine Fw.gT (d := 85) rfl rfl ?_
            refine Fw.s (Fw.Val.F (Fw.val_bin rfl rfl Fw.b_neq) (by omega)) rfl ?_
            refine Fw.s (Fw.val_pickF rfl rfl) rfl ?_
            refine Fw.s (Fw.val_move rfl) rfl ?_
            refine Fw.gT (d := 90) rfl rfl ?_
            refine Fw.s (Fw.val_fieldAddr fl32_8 rfl rfl) rfl ?_
            refine Fw.gT (d := 90) rfl rfl ?_
            refine Fw.ld sc2 rfl (HXu.cell 8) rfl ?_
            refine Fw.gT (d := 90) rfl rfl ?_
            refine Fw.s (Fw.val_indexP (m := 2) Try.underlying57 sz2 rfl rfl rfl (by decide) rfl) rfl ?_
            refine Fw.gT (d := 90) rfl rfl ?_
            refine Fw.ld sc2 rfl (HXq.cell 2) rfl ?_
            refine Fw.gT (d := 90) rfl rfl ?_
            refine Fw.s (Fw.Val.F (Fw.val_bin rfl rfl Fw.b_neq) (by omega)) rfl ?_
            refine Fw.s (Fw.val_pickF rfl rfl) rfl ?_
            refine Fw.s (Fw.val_move rfl) rfl ?_
            refine Fw.gT (d := 97) rfl rfl ?_
            refine Fw.s (Fw.val_move rfl) rfl ?_
            refine Fw.gT (d := 97) rfl rfl ?_
            refine Fw.s (Fw.val_not rfl) rfl ?_
            refine Fw.s (Fw.val_pickF rfl rfl) rfl ?_
            refine Fw.s (Fw.val_move rfl) rfl ?_
            refine Fw.gT (d := 101) rfl rfl ?_
            refine Fw.s (Fw.val_fieldAddr fl36_2 rfl rfl) rfl ?_
            refine Fw.gT (d := 101) rfl rfl ?_
            refine Fw.ld sc3 rfl (HXo.cell 2) rfl ?_
            refine Fw.gT (d := 101) rfl rfl ?_
            refine Fw.s (Fw.Val.F (Fw.val_bin rfl rfl Fw.b_neq) (by decide)) rfl ?_
            refine Fw.s (Fw.val_pickF rfl rfl) rfl ?_
            refine Fw.s (Fw.val_move rfl) rfl ?_
            refine Fw.gT (d := 106) rfl rfl ?_
            refine Fw.s (Fw.val_indexP (m := 0) Try.underlying57 sz2 rfl rfl rfl (by decide) rfl) rfl ?_
            refine Fw.gT (d := 106) rfl rfl ?_
            refine Fw.ld sc2 rfl (HXq.cell 0) rfl ?_
            refine Fw.gT (d := 106) rfl rfl ?_
            refine Fw.s (Fw.val_fieldAddr fl32_6 rfl rfl) rfl ?_
            refine Fw.gT (d := 106) rfl rfl ?_
            refine Fw.ld sc2 rfl (HXv.cell 6) rfl ?_
            refine Fw.gT (d := 106) rfl rfl ?_
            refine Fw.s (Fw.val_bin rfl rfl (Fw.b_sub rfl)) rfl ?_
            refine Fw.gT (d := 106) rfl rfl ?_
            refine Fw.s (Fw.val_indexP (m := 1) Try.underlying57 sz2 rfl rfl rfl (by decide) rfl) rfl ?_
            refine Fw.gT (d := 106) rfl rfl ?_
            refine Fw.ld sc2 rfl (HXq.cell 1) rfl ?_
            refine Fw.gT (d := 106) rfl rfl ?_
            refine Fw.s (Fw.Val.F (Fw.val_bin rfl rfl Fw.b_lss) (by omega)) rfl ?_
            refine Fw.s (Fw.val_pickF rfl rfl) rfl ?_
            refine Fw.nil ?_
            refine hK31 _ _ (Fw.FC.sub (f' := [(115, _), (114, _), (113, _), (112, _), (111, _), (110, _), (109, _), (108, _), (107, _), (104, _), (103, _), (102, _), (99, _), (98, _), (95, _), (94, _), (93, _), (92, _), (91, _), (88, _), (87, _), (86, _), (83, _), (82, _), (81, _), (78, _), (77, _), (76, _), (54, _), (53, _), (52, _), (10, _), (9, _), (7, _), (5, _)]) (.cons rfl (.cons rfl (.cons rfl (.cons rfl (.cons rfl (.cons rfl (.cons rfl (.cons rfl (.cons rfl (.cons rfl (.cons rfl (.cons rfl (.cons rfl (.cons rfl (.cons rfl (.cons rfl (.cons rfl (.cons rfl (.cons rfl (.cons rfl (.cons rfl (.cons rfl (.cons rfl (.cons rfl (.cons rfl (.cons rfl (.cons rfl (.cons rfl (.cons rfl (.cons rfl (.cons rfl (.cons rfl (.cons rfl (.cons rfl (.cons rfl .nil))))))))))))))))))))))))))))))))))) ?_)
            refine Fw.condF rfl ?_
            refine Fw.skip ?_
            refine Fw.X_blockN ?_
            refine hK24 _ _ ?_
            refine Fw.region ?_
            refine Fw.s (Fw.val_bin rfl rfl (Fw.b_add (Fw.i64_ok (by omega)))) rfl ?_
            refine Fw.s (Fw.val_move rfl) rfl ?_
            refine Fw.nil ?_
            refine Fw.roundEnd _ _ (by omega) ⟨k + 1, rfl, hkn, HXq, HR, HO1, HW, HO2, HB, rfl⟩ (.cons rfl (.cons rfl (.cons rfl (.cons rfl (.cons rfl (.cons rfl (.cons rfl .nil)))))))
          · rintro hin
            refine Fw.nil ?_
            refine hK29 _ _ ?_
            refine Fw.condF rfl ?_
            refine Fw.seq fun _ hK32 => ?_
            have heq := Us.quiet_out hkm hkn (of_decide_eq_false hin)
            refine Fw.region ?_
            refine Fw.ldA ag32 rfl (Fw.rdBlk HXu) rfl rfl ?_
            refine Fw.ldA ag32 rfl (Fw.rdBlk HXv) rfl rfl ?_
            refine Fw.s (Fw.Val.F (Fw.val_bin rfl rfl (Fw.b_neqA eq32 (Us.quietL L q0 q1 q2)[k].headI L[k].headI rfl rfl)) (by simp [heq])) rfl ?_
            refine Fw.nil ?_
            refine hK32 _ _ (Fw.FC.sub (f' := [(118, _), (54, _), (53, _), (52, _), (10, _), (9, _), (7, _), (5, _)]) (.cons rfl (.cons rfl (.cons rfl (.cons rfl (.cons rfl (.cons rfl (.cons rfl (.cons rfl .nil)))))))) ?_)
            refine Fw.condF rfl ?_
            refine Fw.skip ?_
            refine Fw.X_blockN ?_
            refine hK24 _ _ ?_
            refine Fw.region ?_
            refine Fw.s (Fw.val_bin rfl rfl (Fw.b_add (Fw.i64_ok (by omega)))) rfl ?_
            refine Fw.s (Fw.val_move rfl) rfl ?_
            refine Fw.nil ?_
            refine Fw.roundEnd _ _ (by omega) ⟨k + 1, rfl, hkn, HXq, HR, HO1, HW, HO2, HB, rfl⟩ (.cons rfl (.cons rfl (.cons rfl (.cons rfl (.cons rfl (.cons rfl (.cons rfl .nil)))))))
        · rintro hk
          refine Fw.nil ?_
          refine hK21 _ _ ?_
          refine Fw.seq fun _ hK33 => ?_
          refine Fw.condF rfl ?_
          refine Fw.exit ?_
          refine Fw.X_exit ?_
          refine Fw.X_exit ?_
          refine Fw.X_block ?_
          refine hK18 _ _ (Fw.FC.sub (f' := []) .nil ?_)
          refine Fw.seq fun _ hK34 => ?_
          refine Fw.region ?_
          refine Fw.s (Fw.val_assign rfl) rfl ?_
          refine Fw.nil ?_
          refine hK34 _ _ ?_
          refine Fw.ret ?_
          refine Fw.ret_ [.tmp 6] [_] Try.results6 (.tmp rfl .nil) ?_
          exact ⟨rfl, HB⟩
  · skip
    refine Fw.calls Try.func6 rfl Try.ntmps6 rfl ?_
    have HB := Below.refl (w.heap.size) w
    refine Fw.seq fun _ hK1 => ?_
    refine Fw.region ?_
    refine Fw.box rfl rfl ?_
    intro w1 gXq egXq HXq hb
    have lgXq : w.heap.size ≤ gXq := by have := HB.size; omega
    replace HB := HB.trans (hb.mono HB.size)
    clear hb
    clear egXq
    refine Fw.s (Fw.val_assign rfl) rfl ?_
    refine Fw.nil ?_
    refine hK1 _ _ ?_
    refine Fw.seq fun _ hK2 => ?_
    refine Fw.seq fun _ hK3 => ?_
    refine Fw.region ?_
    refine Fw.call cf9 rfl rfl (wakes_any _) ?_
    rintro e_ w2 ⟨rfl, hb⟩
    refine ⟨_, rfl, ?_⟩
    replace HXq := HXq.low hb
    replace HB := HB.trans (hb.mono HB.size)
    clear hb
    refine Fw.bT (by rfl) ?_
    refine Fw.s (Fw.val_not rfl) rfl ?_
    refine Fw.nil ?_
    refine hK3 _ _ ?_
    refine Fw.condF rfl ?_
    refine Fw.skip ?_
    refine hK2 _ _ ?_
    refine Fw.seq fun _ hK4 => ?_
    refine Fw.seq fun _ hK5 => ?_
    refine Fw.region ?_
    refine Fw.s (Fw.val_move rfl) rfl ?_
    refine Fw.s (Fw.val_len Try.underlying22 rfl) rfl ?_
    refine Fw.s2 (Fw.val_bin rfl rfl Fw.b_gtr) rfl ?_ ?_
    · rintro hn1
      refine Fw.s (Fw.val_move rfl) rfl ?_
      refine Fw.gF (d := 22) rfl rfl rfl rfl ?_
      refine Fw.gF (d := 22) rfl rfl rfl rfl ?_
      refine Fw.gF (d := 22) rfl rfl rfl rfl ?_
      refine Fw.s (Fw.val_pickT rfl rfl) rfl ?_
      refine Fw.nil ?_
      refine hK5 _ _ (Fw.FC.sub (f' := [(26, _), (5, _), (0, _), (1, _)]) (.cons rfl (.cons rfl (.cons rfl (.cons rfl .nil)))) ?_)
      refine Fw.condT rfl ?_
      refine Fw.seq fun _ hK7 => ?_
      refine Fw.region ?_
      refine Fw.s (Fw.val_assign rfl) rfl ?_
      refine Fw.nil ?_
      refine hK7 _ _ ?_
      refine Fw.ret ?_
      refine Fw.X_ret ?_
      refine Fw.ret_ [.tmp 6] [_] Try.results6 (.tmp rfl .nil) ?_
      exact ⟨rfl, HB⟩
    · rintro hn1
      refine Fw.s (Fw.val_move rfl) rfl ?_
      refine Fw.gT (d := 22) rfl rfl ?_
      refine Fw.s (Fw.val_move rfl) rfl ?_
      refine Fw.gT (d := 22) rfl rfl ?_
      refine Fw.s (Fw.val_len Try.underlying43 rfl) rfl ?_
      refine Fw.gT (d := 22) rfl rfl ?_
      refine Fw.s2 (Fw.val_bin rfl rfl Fw.b_gtr) rfl ?_ ?_
      · rintro hn2
        refine Fw.s (Fw.val_pickF rfl rfl) rfl ?_
        refine Fw.nil ?_
        refine hK5 _ _ (Fw.FC.sub (f' := [(26, _), (5, _), (0, _), (1, _)]) (.cons rfl (.cons rfl (.cons rfl (.cons rfl .nil)))) ?_)
        refine Fw.condT rfl ?_
        refine Fw.seq fun _ hK9 => ?_
        refine Fw.region ?_
        refine Fw.s (Fw.val_assign rfl) rfl ?_
        refine Fw.nil ?_
        refine hK9 _ _ ?_
        refine Fw.ret ?_
        refine Fw.X_ret ?_
        refine Fw.ret_ [.tmp 6] [_] Try.results6 (.tmp rfl .nil) ?_
        exact ⟨rfl, HB⟩
      · rintro hn2
        refine Fw.s (Fw.val_pickF rfl rfl) rfl ?_
        refine Fw.nil ?_
        refine hK5 _ _ (Fw.FC.sub (f' := [(26, _), (5, _), (0, _), (1, _)]) (.cons rfl (.cons rfl (.cons rfl (.cons rfl .nil)))) ?_)
        refine Fw.condF rfl ?_
        refine Fw.skip ?_
        refine hK4 _ _ ?_
        refine Fw.seq fun _ hK10 => ?_
        refine Fw.region ?_
        refine Fw.s (Fw.val_move rfl) rfl ?_
        refine Fw.s (Fw.val_move rfl) rfl ?_
        refine Fw.call cf17 rfl rfl (play_any _ A cf c0 A2 acts c2 (h.low HB) (h2.low HB) (by omega)) ?_
        rintro e_ w3 ⟨x, rfl, -, hb⟩
        refine ⟨_, rfl, ?_⟩
        have hxq := HXq.lt
        replace HXq := HXq.low hb
        replace HB := HB.trans (hb.mono HB.size)
        clear hb
        rw [decide_eq_false hE]
        refine Fw.s (Fw.val_move rfl) rfl ?_
        refine Fw.s (Fw.val_extract rfl rfl) rfl ?_
        refine Fw.s (Fw.val_extract rfl rfl) rfl ?_
        refine Fw.bF (by rfl) ?_
        refine Fw.s (Fw.val_assign rfl) rfl ?_
        refine Fw.s (Fw.val_assign rfl) rfl ?_
        refine Fw.nil ?_
        refine hK10 _ _ (Fw.FC.sub (f' := [(8, _), (7, _), (5, _)]) (.cons rfl (.cons rfl (.cons rfl .nil))) ?_)
        refine Fw.seq fun _ hK11 => ?_
        refine Fw.seq fun _ hK12 => ?_
        refine Fw.region ?_
        refine Fw.s (Fw.val_move rfl) rfl ?_
        refine Fw.s (Fw.val_not rfl) rfl ?_
        refine Fw.nil ?_
        refine hK12 _ _ ?_
        refine Fw.condT rfl ?_
        refine Fw.seq fun _ hK13 => ?_
        refine Fw.region ?_
        refine Fw.s (Fw.val_assign rfl) rfl ?_
        refine Fw.nil ?_
        refine hK13 _ _ ?_
        refine Fw.ret ?_
        refine Fw.X_ret ?_
        refine Fw.ret_ [.tmp 6] [_] Try.results6 (.tmp rfl .nil) ?_
        exact ⟨rfl, HB⟩

end Go.Proofs.Ytmohhociomghhaa
