/- Layer 49: the reference's Add. -/
import Derived.Test.YtgmhcfhmpjpomaaT49
import Derived.Test.YtgmhcfhmpjpomaaHiL
namespace Go.Proofs.Ytgmhcfhmpjpomaa
set_option linter.unusedSimpArgs false
set_option linter.unusedVariables false
open Go.RowKit

namespace Hi
theorem app_range {l : List V} {v : V} (h : (rg v.t && rg v.e) = false) : errA l v = 1 ∧ appL l v = l ∧ appS l v = 0 := by
  have h1 : errA l v = 1 := by unfold errA; rw [h]; rfl
  exact ⟨h1, by unfold appL; rw [h1]; rfl, by unfold appS; rw [h1]; rfl⟩
theorem app_old {l : List V} {v : V} {m : Nat} (h1 : rg v.t = true) (h2 : rg v.e = true) (hm : l.length = m + 1) (hlt : v.t < (l[m]'(by omega)).t ∨ v.e < (l[m]'(by omega)).e) : errA l v = 8 ∧ appL l v = l ∧ appS l v = 0 := by
  have h3 : errA l v = 8 := by unfold errA; rw [h1, h2, last_at hm]; exact if_pos hlt
  exact ⟨h3, by unfold appL; rw [h3]; rfl, by unfold appS; rw [h3]; rfl⟩
theorem app_dup {l : List V} {v : V} {m : Nat} (h1 : rg v.t = true) (h2 : rg v.e = true) (hm : l.length = m + 1) (hlt : ¬ (v.t < (l[m]'(by omega)).t ∨ v.e < (l[m]'(by omega)).e)) (hd : same (l[m]'(by omega)) v = true) : errA l v = 0 ∧ appL l v = l ∧ appS l v = (l[m]'(by omega)).s := by
  have h3 : errA l v = 0 := by unfold errA; rw [h1, h2, last_at hm]; exact if_neg hlt
  have h4 : dup l v = true := by unfold dup; rw [last_at hm]; exact hd
  exact ⟨h3, by unfold appL; rw [h3, h4]; rfl, by unfold appS; rw [h3, h4]; unfold prevS; rw [last_at hm]; rfl⟩
theorem app_new {l : List V} {v : V} {m : Nat} (h1 : rg v.t = true) (h2 : rg v.e = true) (hm : l.length = m + 1) (hlt : ¬ (v.t < (l[m]'(by omega)).t ∨ v.e < (l[m]'(by omega)).e)) (hd : same (l[m]'(by omega)) v = false) :
    errA l v = 0 ∧ appL l v = l ++ [⟨v.t, v.e, v.b, v.d, sl (l[m]'(by omega)).s v⟩] ∧ appS l v = sl (l[m]'(by omega)).s v := by
  have h3 : errA l v = 0 := by unfold errA; rw [h1, h2, last_at hm]; exact if_neg hlt
  have h4 : dup l v = false := by unfold dup; rw [last_at hm]; exact hd
  exact ⟨h3, by unfold appL sealed; rw [h3, h4]; unfold prevS; rw [last_at hm]; rfl, by unfold appS; rw [h3, h4]; unfold prevS; rw [last_at hm]; rfl⟩
theorem app_first {l : List V} {v : V} (h1 : rg v.t = true) (h2 : rg v.e = true) (h0 : l = []) :
    errA l v = 0 ∧ appL l v = l ++ [⟨v.t, v.e, v.b, v.d, sl 14695981039346656037 v⟩] ∧ appS l v = sl 14695981039346656037 v := by
  subst h0
  have h3 : errA [] v = 0 := by unfold errA; rw [h1, h2]; rfl
  exact ⟨h3, by unfold appL sealed; rw [h3]; rfl, by unfold appS; rw [h3]; rfl⟩
end Hi
theorem of_nil (w : World) : Calls Try.prog 30 #[.slice none 0 0] w fun e w' => e = .returned (.int .u64 14695981039346656037) ∧ Below w.heap.size w w' := by
  refine (of_any none [] 0 _ (Rd.nil _ _) (by unfold maxLen; simp) (fun x hx => by cases hx)).mono ?_
  rw [Ck.moreI_nil]; rintro e w' ⟨rfl, n1, rfl⟩
  exact ⟨rfl, below_drewN _ _ _⟩

set_option maxRecDepth 100000 in
theorem add_any (w : World) (A : Option Addr) (l : List Hi.V) (c : Nat) (v : Hi.V) (h : Fw.RdT w 33 A (Hi.vals l)) (hl : l.length ≤ 10000) :
    Calls Try.prog 23 #[.slice A l.length c, .agg #[.int .i64 v.t, .int .i64 v.e, .int .u64 v.b, .int .u64 v.d, .int .u64 v.s]] w fun e w' => ∃ A' c', e = .returned (.tuple #[.slice A' (Hi.appL l v).length c', .int .u64 (Hi.appS l v), .int .i64 (Hi.errA l v)]) ∧ Fw.RdT w' 33 A' (Hi.vals (Hi.appL l v)) ∧ Below w.heap.size w w' := by
  refine Fw.calls Try.func23 rfl Try.ntmps23 rfl ?_
  have HB := Below.refl (w.heap.size) w
  refine Fw.seq fun _ hK1 => ?_
  refine Fw.region ?_
  refine Fw.box rfl rfl ?_
  intro w1 gX egX HX hb
  have lgX : w.heap.size ≤ gX := by have := HB.size; omega
  replace HB := HB.trans (hb.mono HB.size)
  clear hb
  clear egX
  refine Fw.s (Fw.val_assign rfl) rfl ?_
  refine Fw.s (Fw.val_assign rfl) rfl ?_
  refine Fw.s (Fw.val_assign rfl) rfl ?_
  refine Fw.nil ?_
  refine hK1 _ _ ?_
  refine Fw.seq fun _ hK2 => ?_
  refine Fw.seq fun _ hK3 => ?_
  refine Fw.regionQ (by kernel_rfl) (by kernel_rfl) ?_
  refine Fw.q (Fw.val_fieldAddr fl33_0 rfl rfl) rfl ?_
  refine Fw.ldQ sc2 rfl (HX.cell 0) rfl ?_
  refine Fw.q2 (Fw.val_bin rfl rfl Fw.b_lss) rfl ?_ ?_
  · rintro t0
    refine Fw.q (Fw.val_move rfl) rfl ?_
    refine Fw.gFQ (d := 12) rfl rfl rfl rfl ?_
    refine Fw.gFQ (d := 12) rfl rfl rfl rfl ?_
    refine Fw.gFQ (d := 12) rfl rfl rfl rfl ?_
    refine Fw.gFQ (d := 12) rfl rfl rfl rfl ?_
    refine Fw.q (Fw.val_pickT rfl rfl) rfl ?_
    refine Fw.q (Fw.val_move rfl) rfl ?_
    refine Fw.gFQ (d := 18) rfl rfl rfl rfl ?_
    refine Fw.gFQ (d := 18) rfl rfl rfl rfl ?_
    refine Fw.gFQ (d := 18) rfl rfl rfl rfl ?_
    refine Fw.q (Fw.val_pickT rfl rfl) rfl ?_
    refine Fw.q (Fw.val_move rfl) rfl ?_
    refine Fw.gFQ (d := 23) rfl rfl rfl rfl ?_
    refine Fw.gFQ (d := 23) rfl rfl rfl rfl ?_
    refine Fw.gFQ (d := 23) rfl rfl rfl rfl ?_
    refine Fw.gFQ (d := 23) rfl rfl rfl rfl ?_
    refine Fw.q (Fw.val_pickT rfl rfl) rfl ?_
    refine Fw.nilQ ?_
    intro w2 hb
    replace HX := HX.low hb
    replace HB := HB.trans (hb.mono HB.size)
    clear hb
    refine hK3 _ _ (Fw.FC.sub (f' := [(28, _), (3, _), (0, _)]) (.cons rfl (.cons rfl (.cons rfl .nil))) ?_)
    refine Fw.condT rfl ?_
    refine Fw.seq fun _ hK5 => ?_
    refine Fw.region ?_
    refine Fw.s (Fw.val_move rfl) rfl ?_
    refine Fw.s (Fw.val_assign rfl) rfl ?_
    refine Fw.s (Fw.val_assign rfl) rfl ?_
    refine Fw.s (Fw.val_assign rfl) rfl ?_
    refine Fw.nil ?_
    refine hK5 _ _ ?_
    refine Fw.ret ?_
    refine Fw.X_ret ?_
    refine Fw.ret_ [.tmp 4, .tmp 5, .tmp 6] [_, _, _] Try.results23 (.tmp rfl (.tmp rfl (.tmp rfl .nil))) ?_
    obtain ⟨q1, q2, q3⟩ := Hi.app_range (l := l) (v := v) (by rw [Bool.and_eq_false_iff]; unfold Hi.rg; simp only [decide_eq_false_iff_not]; omega)
    rw [q1, q2, q3]
    exact ⟨_, _, rfl, h.low HB, HB⟩
  · rintro t0
    refine Fw.q (Fw.val_move rfl) rfl ?_
    refine Fw.gTQ (d := 12) rfl rfl ?_
    refine Fw.q (Fw.val_fieldAddr fl33_0 rfl rfl) rfl ?_
    refine Fw.gTQ (d := 12) rfl rfl ?_
    refine Fw.ldQ sc2 rfl (HX.cell 0) rfl ?_
    refine Fw.gTQ (d := 12) rfl rfl ?_
    refine Fw.callQ cf31 rfl rfl (fun w_ hb_ => most_any w_) (fun _ _ _ h => ⟨h.1, h.2 ▸ Below.refl _ _⟩) ?_
    refine Fw.gTQ (d := 12) rfl rfl ?_
    refine Fw.q2 (Fw.val_bin rfl rfl Fw.b_gtr) rfl ?_ ?_
    · rintro t1
      refine Fw.q (Fw.val_pickF rfl rfl) rfl ?_
      refine Fw.q (Fw.val_move rfl) rfl ?_
      refine Fw.gFQ (d := 18) rfl rfl rfl rfl ?_
      refine Fw.gFQ (d := 18) rfl rfl rfl rfl ?_
      refine Fw.gFQ (d := 18) rfl rfl rfl rfl ?_
      refine Fw.q (Fw.val_pickT rfl rfl) rfl ?_
      refine Fw.q (Fw.val_move rfl) rfl ?_
      refine Fw.gFQ (d := 23) rfl rfl rfl rfl ?_
      refine Fw.gFQ (d := 23) rfl rfl rfl rfl ?_
      refine Fw.gFQ (d := 23) rfl rfl rfl rfl ?_
      refine Fw.gFQ (d := 23) rfl rfl rfl rfl ?_
      refine Fw.q (Fw.val_pickT rfl rfl) rfl ?_
      refine Fw.nilQ ?_
      intro w3 hb
      replace HX := HX.low hb
      replace HB := HB.trans (hb.mono HB.size)
      clear hb
      refine hK3 _ _ (Fw.FC.sub (f' := [(28, _), (3, _), (0, _)]) (.cons rfl (.cons rfl (.cons rfl .nil))) ?_)
      refine Fw.condT rfl ?_
      refine Fw.seq fun _ hK7 => ?_
      refine Fw.region ?_
      refine Fw.s (Fw.val_move rfl) rfl ?_
      refine Fw.s (Fw.val_assign rfl) rfl ?_
      refine Fw.s (Fw.val_assign rfl) rfl ?_
      refine Fw.s (Fw.val_assign rfl) rfl ?_
      refine Fw.nil ?_
      refine hK7 _ _ ?_
      refine Fw.ret ?_
      refine Fw.X_ret ?_
      refine Fw.ret_ [.tmp 4, .tmp 5, .tmp 6] [_, _, _] Try.results23 (.tmp rfl (.tmp rfl (.tmp rfl .nil))) ?_
      obtain ⟨q1, q2, q3⟩ := Hi.app_range (l := l) (v := v) (by rw [Bool.and_eq_false_iff]; unfold Hi.rg; simp only [decide_eq_false_iff_not]; omega)
      rw [q1, q2, q3]
      exact ⟨_, _, rfl, h.low HB, HB⟩
    · rintro t1
      refine Fw.q (Fw.val_pickF rfl rfl) rfl ?_
      refine Fw.q (Fw.val_move rfl) rfl ?_
      refine Fw.gTQ (d := 18) rfl rfl ?_
      refine Fw.q (Fw.val_fieldAddr fl33_1 rfl rfl) rfl ?_
      refine Fw.gTQ (d := 18) rfl rfl ?_
      refine Fw.ldQ sc2 rfl (HX.cell 1) rfl ?_
      refine Fw.gTQ (d := 18) rfl rfl ?_
      refine Fw.q2 (Fw.val_bin rfl rfl Fw.b_lss) rfl ?_ ?_
      · rintro t2
        refine Fw.q (Fw.val_pickF rfl rfl) rfl ?_
        refine Fw.q (Fw.val_move rfl) rfl ?_
        refine Fw.gFQ (d := 23) rfl rfl rfl rfl ?_
        refine Fw.gFQ (d := 23) rfl rfl rfl rfl ?_
        refine Fw.gFQ (d := 23) rfl rfl rfl rfl ?_
        refine Fw.gFQ (d := 23) rfl rfl rfl rfl ?_
        refine Fw.q (Fw.val_pickT rfl rfl) rfl ?_
        refine Fw.nilQ ?_
        intro w4 hb
        replace HX := HX.low hb
        replace HB := HB.trans (hb.mono HB.size)
        clear hb
        refine hK3 _ _ (Fw.FC.sub (f' := [(28, _), (3, _), (0, _)]) (.cons rfl (.cons rfl (.cons rfl .nil))) ?_)
        refine Fw.condT rfl ?_
        refine Fw.seq fun _ hK9 => ?_
        refine Fw.region ?_
        refine Fw.s (Fw.val_move rfl) rfl ?_
        refine Fw.s (Fw.val_assign rfl) rfl ?_
        refine Fw.s (Fw.val_assign rfl) rfl ?_
        refine Fw.s (Fw.val_assign rfl) rfl ?_
        refine Fw.nil ?_
        refine hK9 _ _ ?_
        refine Fw.ret ?_
        refine Fw.X_ret ?_
        refine Fw.ret_ [.tmp 4, .tmp 5, .tmp 6] [_, _, _] Try.results23 (.tmp rfl (.tmp rfl (.tmp rfl .nil))) ?_
        obtain ⟨q1, q2, q3⟩ := Hi.app_range (l := l) (v := v) (by rw [Bool.and_eq_false_iff]; unfold Hi.rg; simp only [decide_eq_false_iff_not]; omega)
        rw [q1, q2, q3]
        exact ⟨_, _, rfl, h.low HB, HB⟩
      · rintro t2
        refine Fw.q (Fw.val_pickF rfl rfl) rfl ?_
        refine Fw.q (Fw.val_move rfl) rfl ?_
        refine Fw.gTQ (d := 23) rfl rfl ?_
        refine Fw.q (Fw.val_fieldAddr fl33_1 rfl rfl) rfl ?_
        refine Fw.gTQ (d := 23) rfl rfl ?_
        refine Fw.ldQ sc2 rfl (HX.cell 1) rfl ?_
        refine Fw.gTQ (d := 23) rfl rfl ?_
        refine Fw.callQ cf31 rfl rfl (fun w_ hb_ => most_any w_) (fun _ _ _ h => ⟨h.1, h.2 ▸ Below.refl _ _⟩) ?_
        refine Fw.gTQ (d := 23) rfl rfl ?_
        refine Fw.q2 (Fw.val_bin rfl rfl Fw.b_gtr) rfl ?_ ?_
        · rintro t3
          refine Fw.q (Fw.val_pickF rfl rfl) rfl ?_
          refine Fw.nilQ ?_
          intro w5 hb
          replace HX := HX.low hb
          replace HB := HB.trans (hb.mono HB.size)
          clear hb
          refine hK3 _ _ (Fw.FC.sub (f' := [(28, _), (3, _), (0, _)]) (.cons rfl (.cons rfl (.cons rfl .nil))) ?_)
          refine Fw.condT rfl ?_
          refine Fw.seq fun _ hK11 => ?_
          refine Fw.region ?_
          refine Fw.s (Fw.val_move rfl) rfl ?_
          refine Fw.s (Fw.val_assign rfl) rfl ?_
          refine Fw.s (Fw.val_assign rfl) rfl ?_
          refine Fw.s (Fw.val_assign rfl) rfl ?_
          refine Fw.nil ?_
          refine hK11 _ _ ?_
          refine Fw.ret ?_
          refine Fw.X_ret ?_
          refine Fw.ret_ [.tmp 4, .tmp 5, .tmp 6] [_, _, _] Try.results23 (.tmp rfl (.tmp rfl (.tmp rfl .nil))) ?_
          obtain ⟨q1, q2, q3⟩ := Hi.app_range (l := l) (v := v) (by rw [Bool.and_eq_false_iff]; unfold Hi.rg; simp only [decide_eq_false_iff_not]; omega)
          rw [q1, q2, q3]
          exact ⟨_, _, rfl, h.low HB, HB⟩
        · rintro t3
          refine Fw.q (Fw.val_pickF rfl rfl) rfl ?_
          refine Fw.nilQ ?_
          intro w6 hb
          replace HX := HX.low hb
          replace HB := HB.trans (hb.mono HB.size)
          clear hb
          refine hK3 _ _ (Fw.FC.sub (f' := [(28, _), (3, _), (0, _)]) (.cons rfl (.cons rfl (.cons rfl .nil))) ?_)
          refine Fw.condF rfl ?_
          refine Fw.skip ?_
          refine hK2 _ _ ?_
          refine Fw.seq fun _ hK12 => ?_
          refine Fw.region ?_
          refine Fw.call cf30 rfl rfl (of_nil _) ?_
          rintro e_ w7 ⟨rfl, hb⟩
          refine ⟨_, rfl, ?_⟩
          replace HX := HX.low hb
          replace HB := HB.trans (hb.mono HB.size)
          clear hb
          refine Fw.s (Fw.val_assign rfl) rfl ?_
          refine Fw.nil ?_
          refine hK12 _ _ ?_
          refine Fw.seq fun _ hK13 => ?_
          refine Fw.seq fun _ hK14 => ?_
          refine Fw.region ?_
          refine Fw.s (Fw.val_move rfl) rfl ?_
          refine Fw.s (Fw.val_len Try.underlying22 rfl) rfl ?_
          refine Fw.s2 (Fw.val_bin rfl rfl Fw.b_gtr) rfl ?_ ?_
          · rintro t4
            refine Fw.nil ?_
            refine hK14 _ _ ?_
            refine Fw.condT rfl ?_
            refine Fw.seq fun _ hK16 => ?_
            refine Fw.region ?_
            refine Fw.s (Fw.val_move rfl) rfl ?_
            refine Fw.s (Fw.val_move rfl) rfl ?_
            refine Fw.s (Fw.val_len Try.underlying22 rfl) rfl ?_
            refine Fw.s (Fw.val_bin rfl rfl (Fw.b_sub (Fw.i64_ok (by omega)))) rfl ?_
            obtain ⟨m, hm⟩ : ∃ m, l.length = m + 1 := ⟨l.length - 1, by omega⟩
            have hml : m < l.length := by omega
            obtain ⟨ad, b, o, hA, hadd, HE⟩ := Fw.rdAt Hi.cells_len (by decide) (h.1.low HB) m hml
            refine Fw.s (Fw.val_indexR Try.underlying22 sz33 rfl hA rfl (by omega) hml hadd) rfl ?_
            refine Fw.ldA ag33 rfl (HE) rfl rfl ?_
            refine Fw.alloc ze33 rfl ?_
            intro w8 gY egY HY hb
            have n_gX_gY : gX < gY := by have := HX.lt; omega
            have lgY : w.heap.size ≤ gY := by have := HB.size; omega
            clear HE
            replace HX := HX.low hb
            replace HB := HB.trans (hb.mono HB.size)
            clear hb
            clear egY
            refine Fw.storeW sz33 rfl rfl HY rfl rfl (by exact Fw.oneCells rfl) ?_
            intro w9 N_ hc
            replace HX := HX.chg hc (by omega)
            replace HB := HB.trans (hc.below (B := w.heap.size) (fun k e => by omega) HB.size)
            clear hc
            clear HY
            have HY := N_
            clear N_
            refine Fw.nil ?_
            refine hK16 _ _ (Fw.FC.sub (f' := [(8, _), (3, _), (0, _)]) (.cons rfl (.cons rfl (.cons rfl .nil))) ?_)
            refine Fw.seq fun _ hK18 => ?_
            refine Fw.seq fun _ hK19 => ?_
            refine Fw.region ?_
            refine Fw.s (Fw.val_fieldAddr fl33_0 rfl rfl) rfl ?_
            refine Fw.ld sc2 rfl (HX.cell 0) rfl ?_
            refine Fw.s (Fw.val_fieldAddr fl33_0 rfl rfl) rfl ?_
            refine Fw.ld sc2 rfl (HY.cell 0) rfl ?_
            refine Fw.s2 (Fw.val_bin rfl rfl Fw.b_lss) rfl ?_ ?_
            · rintro t5
              refine Fw.s (Fw.val_move rfl) rfl ?_
              refine Fw.gF (d := 45) rfl rfl rfl rfl ?_
              refine Fw.gF (d := 45) rfl rfl rfl rfl ?_
              refine Fw.gF (d := 45) rfl rfl rfl rfl ?_
              refine Fw.gF (d := 45) rfl rfl rfl rfl ?_
              refine Fw.gF (d := 45) rfl rfl rfl rfl ?_
              refine Fw.s (Fw.val_pickT rfl rfl) rfl ?_
              refine Fw.nil ?_
              refine hK19 _ _ (Fw.FC.sub (f' := [(51, _), (8, _), (3, _), (0, _)]) (.cons rfl (.cons rfl (.cons rfl (.cons rfl .nil)))) ?_)
              refine Fw.condT rfl ?_
              refine Fw.seq fun _ hK21 => ?_
              refine Fw.region ?_
              refine Fw.s (Fw.val_move rfl) rfl ?_
              refine Fw.s (Fw.val_assign rfl) rfl ?_
              refine Fw.s (Fw.val_assign rfl) rfl ?_
              refine Fw.s (Fw.val_assign rfl) rfl ?_
              refine Fw.nil ?_
              refine hK21 _ _ ?_
              refine Fw.ret ?_
              refine Fw.X_ret ?_
              refine Fw.X_ret ?_
              refine Fw.ret_ [.tmp 4, .tmp 5, .tmp 6] [_, _, _] Try.results23 (.tmp rfl (.tmp rfl (.tmp rfl .nil))) ?_
              have hr1 : Hi.rg v.t = true := decide_eq_true (by omega)
              have hr2 : Hi.rg v.e = true := decide_eq_true (by omega)
              obtain ⟨q1, q2, q3⟩ := Hi.app_old (l := l) (v := v) hr1 hr2 hm (by first | exact .inl ‹_› | exact .inr ‹_›)
              rw [q1, q2, q3]
              exact ⟨_, _, rfl, h.low HB, HB⟩
            · rintro t5
              refine Fw.s (Fw.val_move rfl) rfl ?_
              refine Fw.gT (d := 45) rfl rfl ?_
              refine Fw.s (Fw.val_fieldAddr fl33_1 rfl rfl) rfl ?_
              refine Fw.gT (d := 45) rfl rfl ?_
              refine Fw.ld sc2 rfl (HX.cell 1) rfl ?_
              refine Fw.gT (d := 45) rfl rfl ?_
              refine Fw.s (Fw.val_fieldAddr fl33_1 rfl rfl) rfl ?_
              refine Fw.gT (d := 45) rfl rfl ?_
              refine Fw.ld sc2 rfl (HY.cell 1) rfl ?_
              refine Fw.gT (d := 45) rfl rfl ?_
              refine Fw.s2 (Fw.val_bin rfl rfl Fw.b_lss) rfl ?_ ?_
              · rintro t6
                refine Fw.s (Fw.val_pickF rfl rfl) rfl ?_
                refine Fw.nil ?_
                refine hK19 _ _ (Fw.FC.sub (f' := [(51, _), (8, _), (3, _), (0, _)]) (.cons rfl (.cons rfl (.cons rfl (.cons rfl .nil)))) ?_)
                refine Fw.condT rfl ?_
                refine Fw.seq fun _ hK23 => ?_
                refine Fw.region ?_
                refine Fw.s (Fw.val_move rfl) rfl ?_
                refine Fw.s (Fw.val_assign rfl) rfl ?_
                refine Fw.s (Fw.val_assign rfl) rfl ?_
                refine Fw.s (Fw.val_assign rfl) rfl ?_
                refine Fw.nil ?_
                refine hK23 _ _ ?_
                refine Fw.ret ?_
                refine Fw.X_ret ?_
                refine Fw.X_ret ?_
                refine Fw.ret_ [.tmp 4, .tmp 5, .tmp 6] [_, _, _] Try.results23 (.tmp rfl (.tmp rfl (.tmp rfl .nil))) ?_
                have hr1 : Hi.rg v.t = true := decide_eq_true (by omega)
                have hr2 : Hi.rg v.e = true := decide_eq_true (by omega)
                obtain ⟨q1, q2, q3⟩ := Hi.app_old (l := l) (v := v) hr1 hr2 hm (by first | exact .inl ‹_› | exact .inr ‹_›)
                rw [q1, q2, q3]
                exact ⟨_, _, rfl, h.low HB, HB⟩
              · rintro t6
                refine Fw.s (Fw.val_pickF rfl rfl) rfl ?_
                refine Fw.nil ?_
                refine hK19 _ _ (Fw.FC.sub (f' := [(51, _), (8, _), (3, _), (0, _)]) (.cons rfl (.cons rfl (.cons rfl (.cons rfl .nil)))) ?_)
                refine Fw.condF rfl ?_
                refine Fw.skip ?_
                refine hK18 _ _ ?_
                refine Fw.seq fun _ hK24 => ?_
                refine Fw.seq fun _ hK25 => ?_
                refine Fw.region ?_
                refine Fw.s (Fw.val_fieldAddr fl33_1 rfl rfl) rfl ?_
                refine Fw.ld sc2 rfl (HX.cell 1) rfl ?_
                refine Fw.s (Fw.val_fieldAddr fl33_1 rfl rfl) rfl ?_
                refine Fw.ld sc2 rfl (HY.cell 1) rfl ?_
                refine Fw.s2 (Fw.val_bin rfl rfl Fw.b_eql) rfl ?_ ?_
                · rintro t7
                  refine Fw.s (Fw.val_move rfl) rfl ?_
                  refine Fw.gT (d := 58) rfl rfl ?_
                  refine Fw.s (Fw.val_fieldAddr fl33_2 rfl rfl) rfl ?_
                  refine Fw.gT (d := 58) rfl rfl ?_
                  refine Fw.ld sc28 rfl (HX.cell 2) rfl ?_
                  refine Fw.gT (d := 58) rfl rfl ?_
                  refine Fw.s (Fw.val_fieldAddr fl33_2 rfl rfl) rfl ?_
                  refine Fw.gT (d := 58) rfl rfl ?_
                  refine Fw.ld sc28 rfl (HY.cell 2) rfl ?_
                  refine Fw.gT (d := 58) rfl rfl ?_
                  refine Fw.s2 (Fw.val_bin rfl rfl Fw.b_eql) rfl ?_ ?_
                  · rintro t8
                    refine Fw.s (Fw.val_pickT rfl rfl) rfl ?_
                    refine Fw.s (Fw.val_move rfl) rfl ?_
                    refine Fw.gT (d := 65) rfl rfl ?_
                    refine Fw.s (Fw.val_fieldAddr fl33_3 rfl rfl) rfl ?_
                    refine Fw.gT (d := 65) rfl rfl ?_
                    refine Fw.ld sc28 rfl (HX.cell 3) rfl ?_
                    refine Fw.gT (d := 65) rfl rfl ?_
                    refine Fw.s (Fw.val_fieldAddr fl33_3 rfl rfl) rfl ?_
                    refine Fw.gT (d := 65) rfl rfl ?_
                    refine Fw.ld sc28 rfl (HY.cell 3) rfl ?_
                    refine Fw.gT (d := 65) rfl rfl ?_
                    refine Fw.s2 (Fw.val_bin rfl rfl Fw.b_eql) rfl ?_ ?_
                    · rintro t9
                      refine Fw.s (Fw.val_pickT rfl rfl) rfl ?_
                      refine Fw.nil ?_
                      refine hK25 _ _ (Fw.FC.sub (f' := [(71, _), (8, _), (3, _), (0, _)]) (.cons rfl (.cons rfl (.cons rfl (.cons rfl .nil)))) ?_)
                      refine Fw.condT rfl ?_
                      refine Fw.seq fun _ hK29 => ?_
                      refine Fw.regionQ (by kernel_rfl) (by kernel_rfl) ?_
                      refine Fw.q (Fw.val_move rfl) rfl ?_
                      refine Fw.q (Fw.val_fieldAddr fl33_4 rfl rfl) rfl ?_
                      refine Fw.ldQ sc28 rfl (HY.cell 4) rfl ?_
                      refine Fw.q (Fw.val_assign rfl) rfl ?_
                      refine Fw.q (Fw.val_assign rfl) rfl ?_
                      refine Fw.q (Fw.val_assign rfl) rfl ?_
                      refine Fw.nilQ ?_
                      intro w10 hb
                      replace HX := HX.low hb
                      replace HY := HY.low hb
                      replace HB := HB.trans (hb.mono HB.size)
                      clear hb
                      refine hK29 _ _ (Fw.FC.sub (f' := [(6, _), (5, _), (4, _)]) (.cons rfl (.cons rfl (.cons rfl .nil))) ?_)
                      refine Fw.ret ?_
                      refine Fw.X_ret ?_
                      refine Fw.X_ret ?_
                      refine Fw.ret_ [.tmp 4, .tmp 5, .tmp 6] [_, _, _] Try.results23 (.tmp rfl (.tmp rfl (.tmp rfl .nil))) ?_
                      have hr1 : Hi.rg v.t = true := decide_eq_true (by omega)
                      have hr2 : Hi.rg v.e = true := decide_eq_true (by omega)
                      obtain ⟨q1, q2, q3⟩ := Hi.app_dup (l := l) (v := v) hr1 hr2 hm (by rintro (h | h) <;> contradiction) (by unfold Hi.same; simp [*])
                      rw [q1, q2, q3]
                      exact ⟨_, _, rfl, h.low HB, HB⟩
                    · rintro t9
                      refine Fw.s (Fw.val_pickT rfl rfl) rfl ?_
                      refine Fw.nil ?_
                      refine hK25 _ _ (Fw.FC.sub (f' := [(71, _), (8, _), (3, _), (0, _)]) (.cons rfl (.cons rfl (.cons rfl (.cons rfl .nil)))) ?_)
                      refine Fw.condF rfl ?_
                      refine Fw.skip ?_
                      refine hK24 _ _ ?_
                      refine Fw.region ?_
                      refine Fw.s (Fw.val_fieldAddr fl33_4 rfl rfl) rfl ?_
                      refine Fw.ld sc28 rfl (HY.cell 4) rfl ?_
                      refine Fw.s (Fw.val_assign rfl) rfl ?_
                      refine Fw.nil ?_
                      refine hK13 _ _ ?_
                      refine Fw.seq fun _ hK30 => ?_
                      refine Fw.region ?_
                      refine Fw.s (Fw.val_move rfl) rfl ?_
                      refine Fw.ldA ag33 rfl (Fw.rdBlk HX) rfl rfl ?_
                      refine Fw.call cf32 rfl rfl (rseal_any (l[m]'hml).s v _) ?_
                      rintro e_ w11 ⟨rfl, hb⟩
                      refine ⟨_, rfl, ?_⟩
                      replace HX := HX.low hb
                      replace HY := HY.low hb
                      replace HB := HB.trans (hb.mono HB.size)
                      clear hb
                      refine Fw.s (Fw.val_fieldAddr fl33_4 rfl rfl) rfl ?_
                      refine Fw.store sz28 rfl rfl HX rfl rfl rfl ?_
                      intro w12 N_ hc
                      replace HY := HY.chg hc (by omega)
                      replace HB := HB.trans (hc.below (B := w.heap.size) (fun k e => by omega) HB.size)
                      clear hc
                      clear HX
                      have HX := N_
                      clear N_
                      replace HX : Blk w12 gX 33 #[.int .i64 v.t, .int .i64 v.e, .int .u64 v.b, .int .u64 v.d, .int .u64 (Hi.sl (l[m]'hml).s v)] := HX
                      refine Fw.nil ?_
                      refine hK30 _ _ (Fw.FC.sub (f' := [(3, _), (0, _)]) (.cons rfl (.cons rfl .nil)) ?_)
                      refine Fw.seq fun _ hK31 => ?_
                      refine Fw.regionH (by kernel_rfl) ?_
                      have R_HX := HX
                      have R_HY := HY
                      have R_HB := HB
                      intro w13 hb
                      have HS := hb
                      replace HX := HX.low hb
                      replace HY := HY.low hb
                      replace HB := HB.trans (hb.mono HB.size)
                      clear hb
                      refine Fw.hTake 1 rfl rfl (by kernel_rfl) (by kernel_rfl) (by kernel_rfl) (Fw.yV (Fw.val_move rfl)) rfl ?_
                      refine Fw.hTake 3 rfl rfl (by kernel_rfl) (by kernel_rfl) (by kernel_rfl) (Fw.yV (Fw.hLdA ag33 rfl (Fw.rdBlk R_HX) rfl)) rfl ?_
                      refine Fw.hTake 6 rfl rfl (by kernel_rfl) (by kernel_rfl) (by kernel_rfl) (Fw.yV (Fw.val_fieldAddr fl33_4 rfl rfl)) rfl ?_
                      refine Fw.hTake 7 rfl rfl (by kernel_rfl) (by kernel_rfl) (by kernel_rfl) (Fw.yV (Fw.hLd sc28 rfl (R_HX.cell 4))) rfl ?_
                      refine Fw.hAll2 0 4 (by kernel_rfl) ?_ ?_
                      · skip
                        refine Fw.hOp 0 rfl ?_
                        refine Fw.buildSlice [] sl22 rfl rfl (by exact Fw.allSz rfl) (by decide) rfl ?_
                        intro w14 gS81 egS81 HS81 hb
                        have rgS81 : w12.heap.size ≤ gS81 := by have := HS.size; omega
                        have n_gX_gS81 : gX < gS81 := by have := HX.lt; omega
                        have n_gY_gS81 : gY < gS81 := by have := HY.lt; omega
                        have lgS81 : w.heap.size ≤ gS81 := by have := HB.size; omega
                        replace HX := HX.low hb
                        replace HY := HY.low hb
                        replace HS := HS.trans (hb.mono HS.size)
                        replace HB := HB.trans (hb.mono HB.size)
                        clear hb
                        clear egS81
                        refine Fw.hNext HS ?_
                        refine Fw.hAll2 2 4 (by kernel_rfl) ?_ ?_
                        · skip
                          refine Fw.hOp 2 rfl ?_
                          refine Fw.append l.length (Hi.vals l) sl22 rfl rfl (Fw.ownBlk (base := w12.heap.size) HS81 (by omega) (by unfold maxLen; omega) rfl) (h.1.low HB) (Hi.vals_len l) (Hi.vals_one l) (by unfold maxLen; omega) HS.size (by omega) rfl rfl ?_
                          intro A83 c83 w15 HO hbb hc _
                          replace HS := HS.trans hbb
                          replace HB := HB.trans (hbb.mono R_HB.size)
                          clear hbb hc
                          refine Fw.hNext HS ?_
                          refine Fw.hAll1 4 (by kernel_rfl) ?_
                          refine Fw.hOp 4 rfl ?_
                          refine Fw.buildSlice [_] sl22 rfl rfl (by exact Fw.allSz rfl) (by decide) rfl ?_
                          intro w16 gS85 egS85 HS85 hb
                          have rgS85 : w12.heap.size ≤ gS85 := by have := HS.size; omega
                          have lgS85 : w.heap.size ≤ gS85 := by have := HB.size; omega
                          replace HS := HS.trans (hb.mono HS.size)
                          replace HO := own_below HO hb (Nat.le_refl _)
                          replace HB := HB.trans (hb.mono HB.size)
                          clear hb
                          clear egS85
                          refine Fw.hNext HS ?_
                          refine Fw.hAll1 5 (by kernel_rfl) ?_
                          refine Fw.hOp 5 rfl ?_
                          refine Fw.append (l.length + 1) (Hi.vals (l ++ [⟨v.t, v.e, v.b, v.d, Hi.sl (l[m]'hml).s v⟩])) sl22 rfl rfl HO (show Rd _ _ (Hi.V.cells ⟨v.t, v.e, v.b, v.d, Hi.sl (l[m]'hml).s v⟩) from Fw.rdBlk HS85) rfl (Fw.oneCellsL rfl) (by unfold maxLen; omega) HS.size rfl (by rw [Hi.vals_append]; rfl) rfl ?_
                          intro A86 c86 w17 HO2 hbb hc _
                          replace HS := HS.trans hbb
                          replace HB := HB.trans (hbb.mono R_HB.size)
                          clear hbb hc
                          refine Fw.hNext HS ?_
                          refine Fw.hTake 8 rfl rfl (by kernel_rfl) (by kernel_rfl) (by kernel_rfl) (Fw.yV (Fw.val_assign rfl)) rfl ?_
                          refine Fw.hTake 9 rfl rfl (by kernel_rfl) (by kernel_rfl) (by kernel_rfl) (Fw.yV (Fw.val_assign rfl)) rfl ?_
                          refine Fw.hTake 10 rfl rfl (by kernel_rfl) (by kernel_rfl) (by kernel_rfl) (Fw.yV (Fw.val_assign rfl)) rfl ?_
                          refine Fw.hDone (by kernel_rfl) ?_
                          refine hK31 _ _ (Fw.FC.sub (f' := [(6, _), (5, _), (4, _)]) (.cons rfl (.cons rfl (.cons rfl .nil))) ?_)
                          refine Fw.ret ?_
                          refine Fw.ret_ [.tmp 4, .tmp 5, .tmp 6] [_, _, _] Try.results23 (.tmp rfl (.tmp rfl (.tmp rfl .nil))) ?_
                          have hr1 : Hi.rg v.t = true := decide_eq_true (by omega)
                          have hr2 : Hi.rg v.e = true := decide_eq_true (by omega)
                          obtain ⟨q1, q2, q3⟩ := Hi.app_new (l := l) (v := v) hr1 hr2 hm (by rintro (h | h) <;> contradiction) (by unfold Hi.same; simp only [Bool.and_eq_false_iff, beq_eq_false_iff_ne]; exact .inr (Ne.symm t9))
                          rw [q1, q2, q3]
                          exact ⟨_, _, by rw [List.length_append]; rfl, Fw.RdT.own HO2, HB⟩
                        · skip
                          refine Fw.hOp 4 rfl ?_
                          refine Fw.buildSlice [_] sl22 rfl rfl (by exact Fw.allSz rfl) (by decide) rfl ?_
                          intro w18 gS85 egS85 HS85 hb
                          have rgS85 : w12.heap.size ≤ gS85 := by have := HS.size; omega
                          have n_gX_gS85 : gX < gS85 := by have := HX.lt; omega
                          have n_gY_gS85 : gY < gS85 := by have := HY.lt; omega
                          have n_gS81_gS85 : gS81 < gS85 := by have := HS81.lt; omega
                          have lgS85 : w.heap.size ≤ gS85 := by have := HB.size; omega
                          replace HX := HX.low hb
                          replace HY := HY.low hb
                          replace HS := HS.trans (hb.mono HS.size)
                          replace HS81 := HS81.low hb
                          replace HB := HB.trans (hb.mono HB.size)
                          clear hb
                          clear egS85
                          refine Fw.hNext HS ?_
                          refine Fw.hAll1 2 (by kernel_rfl) ?_
                          refine Fw.hOp 2 rfl ?_
                          refine Fw.append l.length (Hi.vals l) sl22 rfl rfl (Fw.ownBlk (base := w12.heap.size) HS81 (by omega) (by unfold maxLen; omega) rfl) (h.1.low HB) (Hi.vals_len l) (Hi.vals_one l) (by unfold maxLen; omega) HS.size (by omega) rfl rfl ?_
                          intro A83 c83 w19 HO hbb hc _
                          replace HS := HS.trans hbb
                          replace HB := HB.trans (hbb.mono R_HB.size)
                          replace HS85 := HS85.chg hc (Fw.ownBlk_ne (by omega))
                          clear hbb hc
                          refine Fw.hNext HS ?_
                          refine Fw.hAll1 5 (by kernel_rfl) ?_
                          refine Fw.hOp 5 rfl ?_
                          refine Fw.append (l.length + 1) (Hi.vals (l ++ [⟨v.t, v.e, v.b, v.d, Hi.sl (l[m]'hml).s v⟩])) sl22 rfl rfl HO (show Rd _ _ (Hi.V.cells ⟨v.t, v.e, v.b, v.d, Hi.sl (l[m]'hml).s v⟩) from Fw.rdBlk HS85) rfl (Fw.oneCellsL rfl) (by unfold maxLen; omega) HS.size rfl (by rw [Hi.vals_append]; rfl) rfl ?_
                          intro A86 c86 w20 HO2 hbb hc _
                          replace HS := HS.trans hbb
                          replace HB := HB.trans (hbb.mono R_HB.size)
                          clear hbb hc
                          refine Fw.hNext HS ?_
                          refine Fw.hTake 8 rfl rfl (by kernel_rfl) (by kernel_rfl) (by kernel_rfl) (Fw.yV (Fw.val_assign rfl)) rfl ?_
                          refine Fw.hTake 9 rfl rfl (by kernel_rfl) (by kernel_rfl) (by kernel_rfl) (Fw.yV (Fw.val_assign rfl)) rfl ?_
                          refine Fw.hTake 10 rfl rfl (by kernel_rfl) (by kernel_rfl) (by kernel_rfl) (Fw.yV (Fw.val_assign rfl)) rfl ?_
                          refine Fw.hDone (by kernel_rfl) ?_
                          refine hK31 _ _ (Fw.FC.sub (f' := [(6, _), (5, _), (4, _)]) (.cons rfl (.cons rfl (.cons rfl .nil))) ?_)
                          refine Fw.ret ?_
                          refine Fw.ret_ [.tmp 4, .tmp 5, .tmp 6] [_, _, _] Try.results23 (.tmp rfl (.tmp rfl (.tmp rfl .nil))) ?_
                          have hr1 : Hi.rg v.t = true := decide_eq_true (by omega)
                          have hr2 : Hi.rg v.e = true := decide_eq_true (by omega)
                          obtain ⟨q1, q2, q3⟩ := Hi.app_new (l := l) (v := v) hr1 hr2 hm (by rintro (h | h) <;> contradiction) (by unfold Hi.same; simp only [Bool.and_eq_false_iff, beq_eq_false_iff_ne]; exact .inr (Ne.symm t9))
                          rw [q1, q2, q3]
                          exact ⟨_, _, by rw [List.length_append]; rfl, Fw.RdT.own HO2, HB⟩
                      · skip
                        refine Fw.hOp 4 rfl ?_
                        refine Fw.buildSlice [_] sl22 rfl rfl (by exact Fw.allSz rfl) (by decide) rfl ?_
                        intro w21 gS85 egS85 HS85 hb
                        have rgS85 : w12.heap.size ≤ gS85 := by have := HS.size; omega
                        have n_gX_gS85 : gX < gS85 := by have := HX.lt; omega
                        have n_gY_gS85 : gY < gS85 := by have := HY.lt; omega
                        have lgS85 : w.heap.size ≤ gS85 := by have := HB.size; omega
                        replace HX := HX.low hb
                        replace HY := HY.low hb
                        replace HS := HS.trans (hb.mono HS.size)
                        replace HB := HB.trans (hb.mono HB.size)
                        clear hb
                        clear egS85
                        refine Fw.hNext HS ?_
                        refine Fw.hAll1 0 (by kernel_rfl) ?_
                        refine Fw.hOp 0 rfl ?_
                        refine Fw.buildSlice [] sl22 rfl rfl (by exact Fw.allSz rfl) (by decide) rfl ?_
                        intro w22 gS81 egS81 HS81 hb
                        have rgS81 : w12.heap.size ≤ gS81 := by have := HS.size; omega
                        have n_gX_gS81 : gX < gS81 := by have := HX.lt; omega
                        have n_gY_gS81 : gY < gS81 := by have := HY.lt; omega
                        have n_gS85_gS81 : gS85 < gS81 := by have := HS85.lt; omega
                        have lgS81 : w.heap.size ≤ gS81 := by have := HB.size; omega
                        replace HX := HX.low hb
                        replace HY := HY.low hb
                        replace HS := HS.trans (hb.mono HS.size)
                        replace HS85 := HS85.low hb
                        replace HB := HB.trans (hb.mono HB.size)
                        clear hb
                        clear egS81
                        refine Fw.hNext HS ?_
                        refine Fw.hAll1 2 (by kernel_rfl) ?_
                        refine Fw.hOp 2 rfl ?_
                        refine Fw.append l.length (Hi.vals l) sl22 rfl rfl (Fw.ownBlk (base := w12.heap.size) HS81 (by omega) (by unfold maxLen; omega) rfl) (h.1.low HB) (Hi.vals_len l) (Hi.vals_one l) (by unfold maxLen; omega) HS.size (by omega) rfl rfl ?_
                        intro A83 c83 w23 HO hbb hc _
                        replace HS := HS.trans hbb
                        replace HB := HB.trans (hbb.mono R_HB.size)
                        replace HS85 := HS85.chg hc (Fw.ownBlk_ne (by omega))
                        clear hbb hc
                        refine Fw.hNext HS ?_
                        refine Fw.hAll1 5 (by kernel_rfl) ?_
                        refine Fw.hOp 5 rfl ?_
                        refine Fw.append (l.length + 1) (Hi.vals (l ++ [⟨v.t, v.e, v.b, v.d, Hi.sl (l[m]'hml).s v⟩])) sl22 rfl rfl HO (show Rd _ _ (Hi.V.cells ⟨v.t, v.e, v.b, v.d, Hi.sl (l[m]'hml).s v⟩) from Fw.rdBlk HS85) rfl (Fw.oneCellsL rfl) (by unfold maxLen; omega) HS.size rfl (by rw [Hi.vals_append]; rfl) rfl ?_
                        intro A86 c86 w24 HO2 hbb hc _
                        replace HS := HS.trans hbb
                        replace HB := HB.trans (hbb.mono R_HB.size)
                        clear hbb hc
                        refine Fw.hNext HS ?_
                        refine Fw.hTake 8 rfl rfl (by kernel_rfl) (by kernel_rfl) (by kernel_rfl) (Fw.yV (Fw.val_assign rfl)) rfl ?_
                        refine Fw.hTake 9 rfl rfl (by kernel_rfl) (by kernel_rfl) (by kernel_rfl) (Fw.yV (Fw.val_assign rfl)) rfl ?_
                        refine Fw.hTake 10 rfl rfl (by kernel_rfl) (by kernel_rfl) (by kernel_rfl) (Fw.yV (Fw.val_assign rfl)) rfl ?_
                        refine Fw.hDone (by kernel_rfl) ?_
                        refine hK31 _ _ (Fw.FC.sub (f' := [(6, _), (5, _), (4, _)]) (.cons rfl (.cons rfl (.cons rfl .nil))) ?_)
                        refine Fw.ret ?_
                        refine Fw.ret_ [.tmp 4, .tmp 5, .tmp 6] [_, _, _] Try.results23 (.tmp rfl (.tmp rfl (.tmp rfl .nil))) ?_
                        have hr1 : Hi.rg v.t = true := decide_eq_true (by omega)
                        have hr2 : Hi.rg v.e = true := decide_eq_true (by omega)
                        obtain ⟨q1, q2, q3⟩ := Hi.app_new (l := l) (v := v) hr1 hr2 hm (by rintro (h | h) <;> contradiction) (by unfold Hi.same; simp only [Bool.and_eq_false_iff, beq_eq_false_iff_ne]; exact .inr (Ne.symm t9))
                        rw [q1, q2, q3]
                        exact ⟨_, _, by rw [List.length_append]; rfl, Fw.RdT.own HO2, HB⟩
                  · rintro t8
                    refine Fw.s (Fw.val_pickT rfl rfl) rfl ?_
                    refine Fw.s (Fw.val_move rfl) rfl ?_
                    refine Fw.gF (d := 65) rfl rfl rfl rfl ?_
                    refine Fw.gF (d := 65) rfl rfl rfl rfl ?_
                    refine Fw.gF (d := 65) rfl rfl rfl rfl ?_
                    refine Fw.gF (d := 65) rfl rfl rfl rfl ?_
                    refine Fw.gF (d := 65) rfl rfl rfl rfl ?_
                    refine Fw.s (Fw.val_pickF rfl rfl) rfl ?_
                    refine Fw.nil ?_
                    refine hK25 _ _ (Fw.FC.sub (f' := [(71, _), (8, _), (3, _), (0, _)]) (.cons rfl (.cons rfl (.cons rfl (.cons rfl .nil)))) ?_)
                    refine Fw.condF rfl ?_
                    refine Fw.skip ?_
                    refine hK24 _ _ ?_
                    refine Fw.region ?_
                    refine Fw.s (Fw.val_fieldAddr fl33_4 rfl rfl) rfl ?_
                    refine Fw.ld sc28 rfl (HY.cell 4) rfl ?_
                    refine Fw.s (Fw.val_assign rfl) rfl ?_
                    refine Fw.nil ?_
                    refine hK13 _ _ ?_
                    refine Fw.seq fun _ hK32 => ?_
                    refine Fw.region ?_
                    refine Fw.s (Fw.val_move rfl) rfl ?_
                    refine Fw.ldA ag33 rfl (Fw.rdBlk HX) rfl rfl ?_
                    refine Fw.call cf32 rfl rfl (rseal_any (l[m]'hml).s v _) ?_
                    rintro e_ w25 ⟨rfl, hb⟩
                    refine ⟨_, rfl, ?_⟩
                    replace HX := HX.low hb
                    replace HY := HY.low hb
                    replace HB := HB.trans (hb.mono HB.size)
                    clear hb
                    refine Fw.s (Fw.val_fieldAddr fl33_4 rfl rfl) rfl ?_
                    refine Fw.store sz28 rfl rfl HX rfl rfl rfl ?_
                    intro w26 N_ hc
                    replace HY := HY.chg hc (by omega)
                    replace HB := HB.trans (hc.below (B := w.heap.size) (fun k e => by omega) HB.size)
                    clear hc
                    clear HX
                    have HX := N_
                    clear N_
                    replace HX : Blk w26 gX 33 #[.int .i64 v.t, .int .i64 v.e, .int .u64 v.b, .int .u64 v.d, .int .u64 (Hi.sl (l[m]'hml).s v)] := HX
                    refine Fw.nil ?_
                    refine hK32 _ _ (Fw.FC.sub (f' := [(3, _), (0, _)]) (.cons rfl (.cons rfl .nil)) ?_)
                    refine Fw.seq fun _ hK33 => ?_
                    refine Fw.regionH (by kernel_rfl) ?_
                    have R_HX := HX
                    have R_HY := HY
                    have R_HB := HB
                    intro w27 hb
                    have HS := hb
                    replace HX := HX.low hb
                    replace HY := HY.low hb
                    replace HB := HB.trans (hb.mono HB.size)
                    clear hb
                    refine Fw.hTake 1 rfl rfl (by kernel_rfl) (by kernel_rfl) (by kernel_rfl) (Fw.yV (Fw.val_move rfl)) rfl ?_
                    refine Fw.hTake 3 rfl rfl (by kernel_rfl) (by kernel_rfl) (by kernel_rfl) (Fw.yV (Fw.hLdA ag33 rfl (Fw.rdBlk R_HX) rfl)) rfl ?_
                    refine Fw.hTake 6 rfl rfl (by kernel_rfl) (by kernel_rfl) (by kernel_rfl) (Fw.yV (Fw.val_fieldAddr fl33_4 rfl rfl)) rfl ?_
                    refine Fw.hTake 7 rfl rfl (by kernel_rfl) (by kernel_rfl) (by kernel_rfl) (Fw.yV (Fw.hLd sc28 rfl (R_HX.cell 4))) rfl ?_
                    refine Fw.hAll2 0 4 (by kernel_rfl) ?_ ?_
                    · skip
                      refine Fw.hOp 0 rfl ?_
                      refine Fw.buildSlice [] sl22 rfl rfl (by exact Fw.allSz rfl) (by decide) rfl ?_
                      intro w28 gS81 egS81 HS81 hb
                      have rgS81 : w26.heap.size ≤ gS81 := by have := HS.size; omega
                      have n_gX_gS81 : gX < gS81 := by have := HX.lt; omega
                      have n_gY_gS81 : gY < gS81 := by have := HY.lt; omega
                      have lgS81 : w.heap.size ≤ gS81 := by have := HB.size; omega
                      replace HX := HX.low hb
                      replace HY := HY.low hb
                      replace HS := HS.trans (hb.mono HS.size)
                      replace HB := HB.trans (hb.mono HB.size)
                      clear hb
                      clear egS81
                      refine Fw.hNext HS ?_
                      refine Fw.hAll2 2 4 (by kernel_rfl) ?_ ?_
                      · skip
                        refine Fw.hOp 2 rfl ?_
                        refine Fw.append l.length (Hi.vals l) sl22 rfl rfl (Fw.ownBlk (base := w26.heap.size) HS81 (by omega) (by unfold maxLen; omega) rfl) (h.1.low HB) (Hi.vals_len l) (Hi.vals_one l) (by unfold maxLen; omega) HS.size (by omega) rfl rfl ?_
                        intro A83 c83 w29 HO hbb hc _
                        replace HS := HS.trans hbb
                        replace HB := HB.trans (hbb.mono R_HB.size)
                        clear hbb hc
                        refine Fw.hNext HS ?_
                        refine Fw.hAll1 4 (by kernel_rfl) ?_
                        refine Fw.hOp 4 rfl ?_
                        refine Fw.buildSlice [_] sl22 rfl rfl (by exact Fw.allSz rfl) (by decide) rfl ?_
                        intro w30 gS85 egS85 HS85 hb
                        have rgS85 : w26.heap.size ≤ gS85 := by have := HS.size; omega
                        have lgS85 : w.heap.size ≤ gS85 := by have := HB.size; omega
                        replace HS := HS.trans (hb.mono HS.size)
                        replace HO := own_below HO hb (Nat.le_refl _)
                        replace HB := HB.trans (hb.mono HB.size)
                        clear hb
                        clear egS85
                        refine Fw.hNext HS ?_
                        refine Fw.hAll1 5 (by kernel_rfl) ?_
                        refine Fw.hOp 5 rfl ?_
                        refine Fw.append (l.length + 1) (Hi.vals (l ++ [⟨v.t, v.e, v.b, v.d, Hi.sl (l[m]'hml).s v⟩])) sl22 rfl rfl HO (show Rd _ _ (Hi.V.cells ⟨v.t, v.e, v.b, v.d, Hi.sl (l[m]'hml).s v⟩) from Fw.rdBlk HS85) rfl (Fw.oneCellsL rfl) (by unfold maxLen; omega) HS.size rfl (by rw [Hi.vals_append]; rfl) rfl ?_
                        intro A86 c86 w31 HO2 hbb hc _
                        replace HS := HS.trans hbb
                        replace HB := HB.trans (hbb.mono R_HB.size)
                        clear hbb hc
                        refine Fw.hNext HS ?_
                        refine Fw.hTake 8 rfl rfl (by kernel_rfl) (by kernel_rfl) (by kernel_rfl) (Fw.yV (Fw.val_assign rfl)) rfl ?_
                        refine Fw.hTake 9 rfl rfl (by kernel_rfl) (by kernel_rfl) (by kernel_rfl) (Fw.yV (Fw.val_assign rfl)) rfl ?_
                        refine Fw.hTake 10 rfl rfl (by kernel_rfl) (by kernel_rfl) (by kernel_rfl) (Fw.yV (Fw.val_assign rfl)) rfl ?_
                        refine Fw.hDone (by kernel_rfl) ?_
                        refine hK33 _ _ (Fw.FC.sub (f' := [(6, _), (5, _), (4, _)]) (.cons rfl (.cons rfl (.cons rfl .nil))) ?_)
                        refine Fw.ret ?_
                        refine Fw.ret_ [.tmp 4, .tmp 5, .tmp 6] [_, _, _] Try.results23 (.tmp rfl (.tmp rfl (.tmp rfl .nil))) ?_
                        have hr1 : Hi.rg v.t = true := decide_eq_true (by omega)
                        have hr2 : Hi.rg v.e = true := decide_eq_true (by omega)
                        obtain ⟨q1, q2, q3⟩ := Hi.app_new (l := l) (v := v) hr1 hr2 hm (by rintro (h | h) <;> contradiction) (by unfold Hi.same; simp only [Bool.and_eq_false_iff, beq_eq_false_iff_ne]; exact .inl (.inr (Ne.symm t8)))
                        rw [q1, q2, q3]
                        exact ⟨_, _, by rw [List.length_append]; rfl, Fw.RdT.own HO2, HB⟩
                      · skip
                        refine Fw.hOp 4 rfl ?_
                        refine Fw.buildSlice [_] sl22 rfl rfl (by exact Fw.allSz rfl) (by decide) rfl ?_
                        intro w32 gS85 egS85 HS85 hb
                        have rgS85 : w26.heap.size ≤ gS85 := by have := HS.size; omega
                        have n_gX_gS85 : gX < gS85 := by have := HX.lt; omega
                        have n_gY_gS85 : gY < gS85 := by have := HY.lt; omega
                        have n_gS81_gS85 : gS81 < gS85 := by have := HS81.lt; omega
                        have lgS85 : w.heap.size ≤ gS85 := by have := HB.size; omega
                        replace HX := HX.low hb
                        replace HY := HY.low hb
                        replace HS := HS.trans (hb.mono HS.size)
                        replace HS81 := HS81.low hb
                        replace HB := HB.trans (hb.mono HB.size)
                        clear hb
                        clear egS85
                        refine Fw.hNext HS ?_
                        refine Fw.hAll1 2 (by kernel_rfl) ?_
                        refine Fw.hOp 2 rfl ?_
                        refine Fw.append l.length (Hi.vals l) sl22 rfl rfl (Fw.ownBlk (base := w26.heap.size) HS81 (by omega) (by unfold maxLen; omega) rfl) (h.1.low HB) (Hi.vals_len l) (Hi.vals_one l) (by unfold maxLen; omega) HS.size (by omega) rfl rfl ?_
                        intro A83 c83 w33 HO hbb hc _
                        replace HS := HS.trans hbb
                        replace HB := HB.trans (hbb.mono R_HB.size)
                        replace HS85 := HS85.chg hc (Fw.ownBlk_ne (by omega))
                        clear hbb hc
                        refine Fw.hNext HS ?_
                        refine Fw.hAll1 5 (by kernel_rfl) ?_
                        refine Fw.hOp 5 rfl ?_
                        refine Fw.append (l.length + 1) (Hi.vals (l ++ [⟨v.t, v.e, v.b, v.d, Hi.sl (l[m]'hml).s v⟩])) sl22 rfl rfl HO (show Rd _ _ (Hi.V.cells ⟨v.t, v.e, v.b, v.d, Hi.sl (l[m]'hml).s v⟩) from Fw.rdBlk HS85) rfl (Fw.oneCellsL rfl) (by unfold maxLen; omega) HS.size rfl (by rw [Hi.vals_append]; rfl) rfl ?_
                        intro A86 c86 w34 HO2 hbb hc _
                        replace HS := HS.trans hbb
                        replace HB := HB.trans (hbb.mono R_HB.size)
                        clear hbb hc
                        refine Fw.hNext HS ?_
                        refine Fw.hTake 8 rfl rfl (by kernel_rfl) (by kernel_rfl) (by kernel_rfl) (Fw.yV (Fw.val_assign rfl)) rfl ?_
                        refine Fw.hTake 9 rfl rfl (by kernel_rfl) (by kernel_rfl) (by kernel_rfl) (Fw.yV (Fw.val_assign rfl)) rfl ?_
                        refine Fw.hTake 10 rfl rfl (by kernel_rfl) (by kernel_rfl) (by kernel_rfl) (Fw.yV (Fw.val_assign rfl)) rfl ?_
                        refine Fw.hDone (by kernel_rfl) ?_
                        refine hK33 _ _ (Fw.FC.sub (f' := [(6, _), (5, _), (4, _)]) (.cons rfl (.cons rfl (.cons rfl .nil))) ?_)
                        refine Fw.ret ?_
                        refine Fw.ret_ [.tmp 4, .tmp 5, .tmp 6] [_, _, _] Try.results23 (.tmp rfl (.tmp rfl (.tmp rfl .nil))) ?_
                        have hr1 : Hi.rg v.t = true := decide_eq_true (by omega)
                        have hr2 : Hi.rg v.e = true := decide_eq_true (by omega)
                        obtain ⟨q1, q2, q3⟩ := Hi.app_new (l := l) (v := v) hr1 hr2 hm (by rintro (h | h) <;> contradiction) (by unfold Hi.same; simp only [Bool.and_eq_false_iff, beq_eq_false_iff_ne]; exact .inl (.inr (Ne.symm t8)))
                        rw [q1, q2, q3]
                        exact ⟨_, _, by rw [List.length_append]; rfl, Fw.RdT.own HO2, HB⟩
                    · skip
                      refine Fw.hOp 4 rfl ?_
                      refine Fw.buildSlice [_] sl22 rfl rfl (by exact Fw.allSz rfl) (by decide) rfl ?_
                      intro w35 gS85 egS85 HS85 hb
                      have rgS85 : w26.heap.size ≤ gS85 := by have := HS.size; omega
                      have n_gX_gS85 : gX < gS85 := by have := HX.lt; omega
                      have n_gY_gS85 : gY < gS85 := by have := HY.lt; omega
                      have lgS85 : w.heap.size ≤ gS85 := by have := HB.size; omega
                      replace HX := HX.low hb
                      replace HY := HY.low hb
                      replace HS := HS.trans (hb.mono HS.size)
                      replace HB := HB.trans (hb.mono HB.size)
                      clear hb
                      clear egS85
                      refine Fw.hNext HS ?_
                      refine Fw.hAll1 0 (by kernel_rfl) ?_
                      refine Fw.hOp 0 rfl ?_
                      refine Fw.buildSlice [] sl22 rfl rfl (by exact Fw.allSz rfl) (by decide) rfl ?_
                      intro w36 gS81 egS81 HS81 hb
                      have rgS81 : w26.heap.size ≤ gS81 := by have := HS.size; omega
                      have n_gX_gS81 : gX < gS81 := by have := HX.lt; omega
                      have n_gY_gS81 : gY < gS81 := by have := HY.lt; omega
                      have n_gS85_gS81 : gS85 < gS81 := by have := HS85.lt; omega
                      have lgS81 : w.heap.size ≤ gS81 := by have := HB.size; omega
                      replace HX := HX.low hb
                      replace HY := HY.low hb
                      replace HS := HS.trans (hb.mono HS.size)
                      replace HS85 := HS85.low hb
                      replace HB := HB.trans (hb.mono HB.size)
                      clear hb
                      clear egS81
                      refine Fw.hNext HS ?_
                      refine Fw.hAll1 2 (by kernel_rfl) ?_
                      refine Fw.hOp 2 rfl ?_
                      refine Fw.append l.length (Hi.vals l) sl22 rfl rfl (Fw.ownBlk (base := w26.heap.size) HS81 (by omega) (by unfold maxLen; omega) rfl) (h.1.low HB) (Hi.vals_len l) (Hi.vals_one l) (by unfold maxLen; omega) HS.size (by omega) rfl rfl ?_
                      intro A83 c83 w37 HO hbb hc _
                      replace HS := HS.trans hbb
                      replace HB := HB.trans (hbb.mono R_HB.size)
                      replace HS85 := HS85.chg hc (Fw.ownBlk_ne (by omega))
                      clear hbb hc
                      refine Fw.hNext HS ?_
                      refine Fw.hAll1 5 (by kernel_rfl) ?_
                      refine Fw.hOp 5 rfl ?_
                      refine Fw.append (l.length + 1) (Hi.vals (l ++ [⟨v.t, v.e, v.b, v.d, Hi.sl (l[m]'hml).s v⟩])) sl22 rfl rfl HO (show Rd _ _ (Hi.V.cells ⟨v.t, v.e, v.b, v.d, Hi.sl (l[m]'hml).s v⟩) from Fw.rdBlk HS85) rfl (Fw.oneCellsL rfl) (by unfold maxLen; omega) HS.size rfl (by rw [Hi.vals_append]; rfl) rfl ?_
                      intro A86 c86 w38 HO2 hbb hc _
                      replace HS := HS.trans hbb
                      replace HB := HB.trans (hbb.mono R_HB.size)
                      clear hbb hc
                      refine Fw.hNext HS ?_
                      refine Fw.hTake 8 rfl rfl (by kernel_rfl) (by kernel_rfl) (by kernel_rfl) (Fw.yV (Fw.val_assign rfl)) rfl ?_
                      refine Fw.hTake 9 rfl rfl (by kernel_rfl) (by kernel_rfl) (by kernel_rfl) (Fw.yV (Fw.val_assign rfl)) rfl ?_
                      refine Fw.hTake 10 rfl rfl (by kernel_rfl) (by kernel_rfl) (by kernel_rfl) (Fw.yV (Fw.val_assign rfl)) rfl ?_
                      refine Fw.hDone (by kernel_rfl) ?_
                      refine hK33 _ _ (Fw.FC.sub (f' := [(6, _), (5, _), (4, _)]) (.cons rfl (.cons rfl (.cons rfl .nil))) ?_)
                      refine Fw.ret ?_
                      refine Fw.ret_ [.tmp 4, .tmp 5, .tmp 6] [_, _, _] Try.results23 (.tmp rfl (.tmp rfl (.tmp rfl .nil))) ?_
                      have hr1 : Hi.rg v.t = true := decide_eq_true (by omega)
                      have hr2 : Hi.rg v.e = true := decide_eq_true (by omega)
                      obtain ⟨q1, q2, q3⟩ := Hi.app_new (l := l) (v := v) hr1 hr2 hm (by rintro (h | h) <;> contradiction) (by unfold Hi.same; simp only [Bool.and_eq_false_iff, beq_eq_false_iff_ne]; exact .inl (.inr (Ne.symm t8)))
                      rw [q1, q2, q3]
                      exact ⟨_, _, by rw [List.length_append]; rfl, Fw.RdT.own HO2, HB⟩
                · rintro t7
                  refine Fw.s (Fw.val_move rfl) rfl ?_
                  refine Fw.gF (d := 58) rfl rfl rfl rfl ?_
                  refine Fw.gF (d := 58) rfl rfl rfl rfl ?_
                  refine Fw.gF (d := 58) rfl rfl rfl rfl ?_
                  refine Fw.gF (d := 58) rfl rfl rfl rfl ?_
                  refine Fw.gF (d := 58) rfl rfl rfl rfl ?_
                  refine Fw.s (Fw.val_pickF rfl rfl) rfl ?_
                  refine Fw.s (Fw.val_move rfl) rfl ?_
                  refine Fw.gF (d := 65) rfl rfl rfl rfl ?_
                  refine Fw.gF (d := 65) rfl rfl rfl rfl ?_
                  refine Fw.gF (d := 65) rfl rfl rfl rfl ?_
                  refine Fw.gF (d := 65) rfl rfl rfl rfl ?_
                  refine Fw.gF (d := 65) rfl rfl rfl rfl ?_
                  refine Fw.s (Fw.val_pickF rfl rfl) rfl ?_
                  refine Fw.nil ?_
                  refine hK25 _ _ (Fw.FC.sub (f' := [(71, _), (8, _), (3, _), (0, _)]) (.cons rfl (.cons rfl (.cons rfl (.cons rfl .nil)))) ?_)
                  refine Fw.condF rfl ?_
                  refine Fw.skip ?_
                  refine hK24 _ _ ?_
                  refine Fw.region ?_
                  refine Fw.s (Fw.val_fieldAddr fl33_4 rfl rfl) rfl ?_
                  refine Fw.ld sc28 rfl (HY.cell 4) rfl ?_
                  refine Fw.s (Fw.val_assign rfl) rfl ?_
                  refine Fw.nil ?_
                  refine hK13 _ _ ?_
                  refine Fw.seq fun _ hK34 => ?_
                  refine Fw.region ?_
                  refine Fw.s (Fw.val_move rfl) rfl ?_
                  refine Fw.ldA ag33 rfl (Fw.rdBlk HX) rfl rfl ?_
                  refine Fw.call cf32 rfl rfl (rseal_any (l[m]'hml).s v _) ?_
                  rintro e_ w39 ⟨rfl, hb⟩
                  refine ⟨_, rfl, ?_⟩
                  replace HX := HX.low hb
                  replace HY := HY.low hb
                  replace HB := HB.trans (hb.mono HB.size)
                  clear hb
                  refine Fw.s (Fw.val_fieldAddr fl33_4 rfl rfl) rfl ?_
                  refine Fw.store sz28 rfl rfl HX rfl rfl rfl ?_
                  intro w40 N_ hc
                  replace HY := HY.chg hc (by omega)
                  replace HB := HB.trans (hc.below (B := w.heap.size) (fun k e => by omega) HB.size)
                  clear hc
                  clear HX
                  have HX := N_
                  clear N_
                  replace HX : Blk w40 gX 33 #[.int .i64 v.t, .int .i64 v.e, .int .u64 v.b, .int .u64 v.d, .int .u64 (Hi.sl (l[m]'hml).s v)] := HX
                  refine Fw.nil ?_
                  refine hK34 _ _ (Fw.FC.sub (f' := [(3, _), (0, _)]) (.cons rfl (.cons rfl .nil)) ?_)
                  refine Fw.seq fun _ hK35 => ?_
                  refine Fw.regionH (by kernel_rfl) ?_
                  have R_HX := HX
                  have R_HY := HY
                  have R_HB := HB
                  intro w41 hb
                  have HS := hb
                  replace HX := HX.low hb
                  replace HY := HY.low hb
                  replace HB := HB.trans (hb.mono HB.size)
                  clear hb
                  refine Fw.hTake 1 rfl rfl (by kernel_rfl) (by kernel_rfl) (by kernel_rfl) (Fw.yV (Fw.val_move rfl)) rfl ?_
                  refine Fw.hTake 3 rfl rfl (by kernel_rfl) (by kernel_rfl) (by kernel_rfl) (Fw.yV (Fw.hLdA ag33 rfl (Fw.rdBlk R_HX) rfl)) rfl ?_
                  refine Fw.hTake 6 rfl rfl (by kernel_rfl) (by kernel_rfl) (by kernel_rfl) (Fw.yV (Fw.val_fieldAddr fl33_4 rfl rfl)) rfl ?_
                  refine Fw.hTake 7 rfl rfl (by kernel_rfl) (by kernel_rfl) (by kernel_rfl) (Fw.yV (Fw.hLd sc28 rfl (R_HX.cell 4))) rfl ?_
                  refine Fw.hAll2 0 4 (by kernel_rfl) ?_ ?_
                  · skip
                    refine Fw.hOp 0 rfl ?_
                    refine Fw.buildSlice [] sl22 rfl rfl (by exact Fw.allSz rfl) (by decide) rfl ?_
                    intro w42 gS81 egS81 HS81 hb
                    have rgS81 : w40.heap.size ≤ gS81 := by have := HS.size; omega
                    have n_gX_gS81 : gX < gS81 := by have := HX.lt; omega
                    have n_gY_gS81 : gY < gS81 := by have := HY.lt; omega
                    have lgS81 : w.heap.size ≤ gS81 := by have := HB.size; omega
                    replace HX := HX.low hb
                    replace HY := HY.low hb
                    replace HS := HS.trans (hb.mono HS.size)
                    replace HB := HB.trans (hb.mono HB.size)
                    clear hb
                    clear egS81
                    refine Fw.hNext HS ?_
                    refine Fw.hAll2 2 4 (by kernel_rfl) ?_ ?_
                    · skip
                      refine Fw.hOp 2 rfl ?_
                      refine Fw.append l.length (Hi.vals l) sl22 rfl rfl (Fw.ownBlk (base := w40.heap.size) HS81 (by omega) (by unfold maxLen; omega) rfl) (h.1.low HB) (Hi.vals_len l) (Hi.vals_one l) (by unfold maxLen; omega) HS.size (by omega) rfl rfl ?_
                      intro A83 c83 w43 HO hbb hc _
                      replace HS := HS.trans hbb
                      replace HB := HB.trans (hbb.mono R_HB.size)
                      clear hbb hc
                      refine Fw.hNext HS ?_
                      refine Fw.hAll1 4 (by kernel_rfl) ?_
                      refine Fw.hOp 4 rfl ?_
                      refine Fw.buildSlice [_] sl22 rfl rfl (by exact Fw.allSz rfl) (by decide) rfl ?_
                      intro w44 gS85 egS85 HS85 hb
                      have rgS85 : w40.heap.size ≤ gS85 := by have := HS.size; omega
                      have lgS85 : w.heap.size ≤ gS85 := by have := HB.size; omega
                      replace HS := HS.trans (hb.mono HS.size)
                      replace HO := own_below HO hb (Nat.le_refl _)
                      replace HB := HB.trans (hb.mono HB.size)
                      clear hb
                      clear egS85
                      refine Fw.hNext HS ?_
                      refine Fw.hAll1 5 (by kernel_rfl) ?_
                      refine Fw.hOp 5 rfl ?_
                      refine Fw.append (l.length + 1) (Hi.vals (l ++ [⟨v.t, v.e, v.b, v.d, Hi.sl (l[m]'hml).s v⟩])) sl22 rfl rfl HO (show Rd _ _ (Hi.V.cells ⟨v.t, v.e, v.b, v.d, Hi.sl (l[m]'hml).s v⟩) from Fw.rdBlk HS85) rfl (Fw.oneCellsL rfl) (by unfold maxLen; omega) HS.size rfl (by rw [Hi.vals_append]; rfl) rfl ?_
                      intro A86 c86 w45 HO2 hbb hc _
                      replace HS := HS.trans hbb
                      replace HB := HB.trans (hbb.mono R_HB.size)
                      clear hbb hc
                      refine Fw.hNext HS ?_
                      refine Fw.hTake 8 rfl rfl (by kernel_rfl) (by kernel_rfl) (by kernel_rfl) (Fw.yV (Fw.val_assign rfl)) rfl ?_
                      refine Fw.hTake 9 rfl rfl (by kernel_rfl) (by kernel_rfl) (by kernel_rfl) (Fw.yV (Fw.val_assign rfl)) rfl ?_
                      refine Fw.hTake 10 rfl rfl (by kernel_rfl) (by kernel_rfl) (by kernel_rfl) (Fw.yV (Fw.val_assign rfl)) rfl ?_
                      refine Fw.hDone (by kernel_rfl) ?_
                      refine hK35 _ _ (Fw.FC.sub (f' := [(6, _), (5, _), (4, _)]) (.cons rfl (.cons rfl (.cons rfl .nil))) ?_)
                      refine Fw.ret ?_
                      refine Fw.ret_ [.tmp 4, .tmp 5, .tmp 6] [_, _, _] Try.results23 (.tmp rfl (.tmp rfl (.tmp rfl .nil))) ?_
                      have hr1 : Hi.rg v.t = true := decide_eq_true (by omega)
                      have hr2 : Hi.rg v.e = true := decide_eq_true (by omega)
                      obtain ⟨q1, q2, q3⟩ := Hi.app_new (l := l) (v := v) hr1 hr2 hm (by rintro (h | h) <;> contradiction) (by unfold Hi.same; simp only [Bool.and_eq_false_iff, beq_eq_false_iff_ne]; exact .inl (.inl (Ne.symm t7)))
                      rw [q1, q2, q3]
                      exact ⟨_, _, by rw [List.length_append]; rfl, Fw.RdT.own HO2, HB⟩
                    · skip
                      refine Fw.hOp 4 rfl ?_
                      refine Fw.buildSlice [_] sl22 rfl rfl (by exact Fw.allSz rfl) (by decide) rfl ?_
                      intro w46 gS85 egS85 HS85 hb
                      have rgS85 : w40.heap.size ≤ gS85 := by have := HS.size; omega
                      have n_gX_gS85 : gX < gS85 := by have := HX.lt; omega
                      have n_gY_gS85 : gY < gS85 := by have := HY.lt; omega
                      have n_gS81_gS85 : gS81 < gS85 := by have := HS81.lt; omega
                      have lgS85 : w.heap.size ≤ gS85 := by have := HB.size; omega
                      replace HX := HX.low hb
                      replace HY := HY.low hb
                      replace HS := HS.trans (hb.mono HS.size)
                      replace HS81 := HS81.low hb
                      replace HB := HB.trans (hb.mono HB.size)
                      clear hb
                      clear egS85
                      refine Fw.hNext HS ?_
                      refine Fw.hAll1 2 (by kernel_rfl) ?_
                      refine Fw.hOp 2 rfl ?_
                      refine Fw.append l.length (Hi.vals l) sl22 rfl rfl (Fw.ownBlk (base := w40.heap.size) HS81 (by omega) (by unfold maxLen; omega) rfl) (h.1.low HB) (Hi.vals_len l) (Hi.vals_one l) (by unfold maxLen; omega) HS.size (by omega) rfl rfl ?_
                      intro A83 c83 w47 HO hbb hc _
                      replace HS := HS.trans hbb
                      replace HB := HB.trans (hbb.mono R_HB.size)
                      replace HS85 := HS85.chg hc (Fw.ownBlk_ne (by omega))
                      clear hbb hc
                      refine Fw.hNext HS ?_
                      refine Fw.hAll1 5 (by kernel_rfl) ?_
                      refine Fw.hOp 5 rfl ?_
                      refine Fw.append (l.length + 1) (Hi.vals (l ++ [⟨v.t, v.e, v.b, v.d, Hi.sl (l[m]'hml).s v⟩])) sl22 rfl rfl HO (show Rd _ _ (Hi.V.cells ⟨v.t, v.e, v.b, v.d, Hi.sl (l[m]'hml).s v⟩) from Fw.rdBlk HS85) rfl (Fw.oneCellsL rfl) (by unfold maxLen; omega) HS.size rfl (by rw [Hi.vals_append]; rfl) rfl ?_
                      intro A86 c86 w48 HO2 hbb hc _
                      replace HS := HS.trans hbb
                      replace HB := HB.trans (hbb.mono R_HB.size)
                      clear hbb hc
                      refine Fw.hNext HS ?_
                      refine Fw.hTake 8 rfl rfl (by kernel_rfl) (by kernel_rfl) (by kernel_rfl) (Fw.yV (Fw.val_assign rfl)) rfl ?_
                      refine Fw.hTake 9 rfl rfl (by kernel_rfl) (by kernel_rfl) (by kernel_rfl) (Fw.yV (Fw.val_assign rfl)) rfl ?_
                      refine Fw.hTake 10 rfl rfl (by kernel_rfl) (by kernel_rfl) (by kernel_rfl) (Fw.yV (Fw.val_assign rfl)) rfl ?_
                      refine Fw.hDone (by kernel_rfl) ?_
                      refine hK35 _ _ (Fw.FC.sub (f' := [(6, _), (5, _), (4, _)]) (.cons rfl (.cons rfl (.cons rfl .nil))) ?_)
                      refine Fw.ret ?_
                      refine Fw.ret_ [.tmp 4, .tmp 5, .tmp 6] [_, _, _] Try.results23 (.tmp rfl (.tmp rfl (.tmp rfl .nil))) ?_
                      have hr1 : Hi.rg v.t = true := decide_eq_true (by omega)
                      have hr2 : Hi.rg v.e = true := decide_eq_true (by omega)
                      obtain ⟨q1, q2, q3⟩ := Hi.app_new (l := l) (v := v) hr1 hr2 hm (by rintro (h | h) <;> contradiction) (by unfold Hi.same; simp only [Bool.and_eq_false_iff, beq_eq_false_iff_ne]; exact .inl (.inl (Ne.symm t7)))
                      rw [q1, q2, q3]
                      exact ⟨_, _, by rw [List.length_append]; rfl, Fw.RdT.own HO2, HB⟩
                  · skip
                    refine Fw.hOp 4 rfl ?_
                    refine Fw.buildSlice [_] sl22 rfl rfl (by exact Fw.allSz rfl) (by decide) rfl ?_
                    intro w49 gS85 egS85 HS85 hb
                    have rgS85 : w40.heap.size ≤ gS85 := by have := HS.size; omega
                    have n_gX_gS85 : gX < gS85 := by have := HX.lt; omega
                    have n_gY_gS85 : gY < gS85 := by have := HY.lt; omega
                    have lgS85 : w.heap.size ≤ gS85 := by have := HB.size; omega
                    replace HX := HX.low hb
                    replace HY := HY.low hb
                    replace HS := HS.trans (hb.mono HS.size)
                    replace HB := HB.trans (hb.mono HB.size)
                    clear hb
                    clear egS85
                    refine Fw.hNext HS ?_
                    refine Fw.hAll1 0 (by kernel_rfl) ?_
                    refine Fw.hOp 0 rfl ?_
                    refine Fw.buildSlice [] sl22 rfl rfl (by exact Fw.allSz rfl) (by decide) rfl ?_
                    intro w50 gS81 egS81 HS81 hb
                    have rgS81 : w40.heap.size ≤ gS81 := by have := HS.size; omega
                    have n_gX_gS81 : gX < gS81 := by have := HX.lt; omega
                    have n_gY_gS81 : gY < gS81 := by have := HY.lt; omega
                    have n_gS85_gS81 : gS85 < gS81 := by have := HS85.lt; omega
                    have lgS81 : w.heap.size ≤ gS81 := by have := HB.size; omega
                    replace HX := HX.low hb
                    replace HY := HY.low hb
                    replace HS := HS.trans (hb.mono HS.size)
                    replace HS85 := HS85.low hb
                    replace HB := HB.trans (hb.mono HB.size)
                    clear hb
                    clear egS81
                    refine Fw.hNext HS ?_
                    refine Fw.hAll1 2 (by kernel_rfl) ?_
                    refine Fw.hOp 2 rfl ?_
                    refine Fw.append l.length (Hi.vals l) sl22 rfl rfl (Fw.ownBlk (base := w40.heap.size) HS81 (by omega) (by unfold maxLen; omega) rfl) (h.1.low HB) (Hi.vals_len l) (Hi.vals_one l) (by unfold maxLen; omega) HS.size (by omega) rfl rfl ?_
                    intro A83 c83 w51 HO hbb hc _
                    replace HS := HS.trans hbb
                    replace HB := HB.trans (hbb.mono R_HB.size)
                    replace HS85 := HS85.chg hc (Fw.ownBlk_ne (by omega))
                    clear hbb hc
                    refine Fw.hNext HS ?_
                    refine Fw.hAll1 5 (by kernel_rfl) ?_
                    refine Fw.hOp 5 rfl ?_
                    refine Fw.append (l.length + 1) (Hi.vals (l ++ [⟨v.t, v.e, v.b, v.d, Hi.sl (l[m]'hml).s v⟩])) sl22 rfl rfl HO (show Rd _ _ (Hi.V.cells ⟨v.t, v.e, v.b, v.d, Hi.sl (l[m]'hml).s v⟩) from Fw.rdBlk HS85) rfl (Fw.oneCellsL rfl) (by unfold maxLen; omega) HS.size rfl (by rw [Hi.vals_append]; rfl) rfl ?_
                    intro A86 c86 w52 HO2 hbb hc _
                    replace HS := HS.trans hbb
                    replace HB := HB.trans (hbb.mono R_HB.size)
                    clear hbb hc
                    refine Fw.hNext HS ?_
                    refine Fw.hTake 8 rfl rfl (by kernel_rfl) (by kernel_rfl) (by kernel_rfl) (Fw.yV (Fw.val_assign rfl)) rfl ?_
                    refine Fw.hTake 9 rfl rfl (by kernel_rfl) (by kernel_rfl) (by kernel_rfl) (Fw.yV (Fw.val_assign rfl)) rfl ?_
                    refine Fw.hTake 10 rfl rfl (by kernel_rfl) (by kernel_rfl) (by kernel_rfl) (Fw.yV (Fw.val_assign rfl)) rfl ?_
                    refine Fw.hDone (by kernel_rfl) ?_
                    refine hK35 _ _ (Fw.FC.sub (f' := [(6, _), (5, _), (4, _)]) (.cons rfl (.cons rfl (.cons rfl .nil))) ?_)
                    refine Fw.ret ?_
                    refine Fw.ret_ [.tmp 4, .tmp 5, .tmp 6] [_, _, _] Try.results23 (.tmp rfl (.tmp rfl (.tmp rfl .nil))) ?_
                    have hr1 : Hi.rg v.t = true := decide_eq_true (by omega)
                    have hr2 : Hi.rg v.e = true := decide_eq_true (by omega)
                    obtain ⟨q1, q2, q3⟩ := Hi.app_new (l := l) (v := v) hr1 hr2 hm (by rintro (h | h) <;> contradiction) (by unfold Hi.same; simp only [Bool.and_eq_false_iff, beq_eq_false_iff_ne]; exact .inl (.inl (Ne.symm t7)))
                    rw [q1, q2, q3]
                    exact ⟨_, _, by rw [List.length_append]; rfl, Fw.RdT.own HO2, HB⟩
          · rintro t4
            refine Fw.nil ?_
            refine hK14 _ _ ?_
            refine Fw.condF rfl ?_
            refine Fw.skip ?_
            refine hK13 _ _ ?_
            refine Fw.seq fun _ hK36 => ?_
            refine Fw.region ?_
            refine Fw.s (Fw.val_move rfl) rfl ?_
            refine Fw.ldA ag33 rfl (Fw.rdBlk HX) rfl rfl ?_
            refine Fw.call cf32 rfl rfl (rseal_any 14695981039346656037 v _) ?_
            rintro e_ w53 ⟨rfl, hb⟩
            refine ⟨_, rfl, ?_⟩
            replace HX := HX.low hb
            replace HB := HB.trans (hb.mono HB.size)
            clear hb
            refine Fw.s (Fw.val_fieldAddr fl33_4 rfl rfl) rfl ?_
            refine Fw.store sz28 rfl rfl HX rfl rfl rfl ?_
            intro w54 N_ hc
            replace HB := HB.trans (hc.below (B := w.heap.size) (fun k e => by omega) HB.size)
            clear hc
            clear HX
            have HX := N_
            clear N_
            replace HX : Blk w54 gX 33 #[.int .i64 v.t, .int .i64 v.e, .int .u64 v.b, .int .u64 v.d, .int .u64 (Hi.sl 14695981039346656037 v)] := HX
            refine Fw.nil ?_
            refine hK36 _ _ (Fw.FC.sub (f' := [(3, _), (0, _)]) (.cons rfl (.cons rfl .nil)) ?_)
            refine Fw.seq fun _ hK37 => ?_
            refine Fw.regionH (by kernel_rfl) ?_
            have R_HX := HX
            have R_HB := HB
            intro w55 hb
            have HS := hb
            replace HX := HX.low hb
            replace HB := HB.trans (hb.mono HB.size)
            clear hb
            refine Fw.hTake 1 rfl rfl (by kernel_rfl) (by kernel_rfl) (by kernel_rfl) (Fw.yV (Fw.val_move rfl)) rfl ?_
            refine Fw.hTake 3 rfl rfl (by kernel_rfl) (by kernel_rfl) (by kernel_rfl) (Fw.yV (Fw.hLdA ag33 rfl (Fw.rdBlk R_HX) rfl)) rfl ?_
            refine Fw.hTake 6 rfl rfl (by kernel_rfl) (by kernel_rfl) (by kernel_rfl) (Fw.yV (Fw.val_fieldAddr fl33_4 rfl rfl)) rfl ?_
            refine Fw.hTake 7 rfl rfl (by kernel_rfl) (by kernel_rfl) (by kernel_rfl) (Fw.yV (Fw.hLd sc28 rfl (R_HX.cell 4))) rfl ?_
            refine Fw.hAll2 0 4 (by kernel_rfl) ?_ ?_
            · skip
              refine Fw.hOp 0 rfl ?_
              refine Fw.buildSlice [] sl22 rfl rfl (by exact Fw.allSz rfl) (by decide) rfl ?_
              intro w56 gS81 egS81 HS81 hb
              have rgS81 : w54.heap.size ≤ gS81 := by have := HS.size; omega
              have n_gX_gS81 : gX < gS81 := by have := HX.lt; omega
              have lgS81 : w.heap.size ≤ gS81 := by have := HB.size; omega
              replace HX := HX.low hb
              replace HS := HS.trans (hb.mono HS.size)
              replace HB := HB.trans (hb.mono HB.size)
              clear hb
              clear egS81
              refine Fw.hNext HS ?_
              refine Fw.hAll2 2 4 (by kernel_rfl) ?_ ?_
              · skip
                refine Fw.hOp 2 rfl ?_
                refine Fw.append l.length (Hi.vals l) sl22 rfl rfl (Fw.ownBlk (base := w54.heap.size) HS81 (by omega) (by unfold maxLen; omega) rfl) (h.1.low HB) (Hi.vals_len l) (Hi.vals_one l) (by unfold maxLen; omega) HS.size (by omega) rfl rfl ?_
                intro A83 c83 w57 HO hbb hc _
                replace HS := HS.trans hbb
                replace HB := HB.trans (hbb.mono R_HB.size)
                clear hbb hc
                refine Fw.hNext HS ?_
                refine Fw.hAll1 4 (by kernel_rfl) ?_
                refine Fw.hOp 4 rfl ?_
                refine Fw.buildSlice [_] sl22 rfl rfl (by exact Fw.allSz rfl) (by decide) rfl ?_
                intro w58 gS85 egS85 HS85 hb
                have rgS85 : w54.heap.size ≤ gS85 := by have := HS.size; omega
                have lgS85 : w.heap.size ≤ gS85 := by have := HB.size; omega
                replace HS := HS.trans (hb.mono HS.size)
                replace HO := own_below HO hb (Nat.le_refl _)
                replace HB := HB.trans (hb.mono HB.size)
                clear hb
                clear egS85
                refine Fw.hNext HS ?_
                refine Fw.hAll1 5 (by kernel_rfl) ?_
                refine Fw.hOp 5 rfl ?_
                refine Fw.append (l.length + 1) (Hi.vals (l ++ [⟨v.t, v.e, v.b, v.d, Hi.sl 14695981039346656037 v⟩])) sl22 rfl rfl HO (show Rd _ _ (Hi.V.cells ⟨v.t, v.e, v.b, v.d, Hi.sl 14695981039346656037 v⟩) from Fw.rdBlk HS85) rfl (Fw.oneCellsL rfl) (by unfold maxLen; omega) HS.size rfl (by rw [Hi.vals_append]; rfl) rfl ?_
                intro A86 c86 w59 HO2 hbb hc _
                replace HS := HS.trans hbb
                replace HB := HB.trans (hbb.mono R_HB.size)
                clear hbb hc
                refine Fw.hNext HS ?_
                refine Fw.hTake 8 rfl rfl (by kernel_rfl) (by kernel_rfl) (by kernel_rfl) (Fw.yV (Fw.val_assign rfl)) rfl ?_
                refine Fw.hTake 9 rfl rfl (by kernel_rfl) (by kernel_rfl) (by kernel_rfl) (Fw.yV (Fw.val_assign rfl)) rfl ?_
                refine Fw.hTake 10 rfl rfl (by kernel_rfl) (by kernel_rfl) (by kernel_rfl) (Fw.yV (Fw.val_assign rfl)) rfl ?_
                refine Fw.hDone (by kernel_rfl) ?_
                refine hK37 _ _ (Fw.FC.sub (f' := [(6, _), (5, _), (4, _)]) (.cons rfl (.cons rfl (.cons rfl .nil))) ?_)
                refine Fw.ret ?_
                refine Fw.ret_ [.tmp 4, .tmp 5, .tmp 6] [_, _, _] Try.results23 (.tmp rfl (.tmp rfl (.tmp rfl .nil))) ?_
                have hr1 : Hi.rg v.t = true := decide_eq_true (by omega)
                have hr2 : Hi.rg v.e = true := decide_eq_true (by omega)
                obtain ⟨q1, q2, q3⟩ := Hi.app_first (l := l) (v := v) hr1 hr2 (List.eq_nil_of_length_eq_zero (by omega))
                rw [q1, q2, q3]
                exact ⟨_, _, by rw [List.length_append]; rfl, Fw.RdT.own HO2, HB⟩
              · skip
                refine Fw.hOp 4 rfl ?_
                refine Fw.buildSlice [_] sl22 rfl rfl (by exact Fw.allSz rfl) (by decide) rfl ?_
                intro w60 gS85 egS85 HS85 hb
                have rgS85 : w54.heap.size ≤ gS85 := by have := HS.size; omega
                have n_gX_gS85 : gX < gS85 := by have := HX.lt; omega
                have n_gS81_gS85 : gS81 < gS85 := by have := HS81.lt; omega
                have lgS85 : w.heap.size ≤ gS85 := by have := HB.size; omega
                replace HX := HX.low hb
                replace HS := HS.trans (hb.mono HS.size)
                replace HS81 := HS81.low hb
                replace HB := HB.trans (hb.mono HB.size)
                clear hb
                clear egS85
                refine Fw.hNext HS ?_
                refine Fw.hAll1 2 (by kernel_rfl) ?_
                refine Fw.hOp 2 rfl ?_
                refine Fw.append l.length (Hi.vals l) sl22 rfl rfl (Fw.ownBlk (base := w54.heap.size) HS81 (by omega) (by unfold maxLen; omega) rfl) (h.1.low HB) (Hi.vals_len l) (Hi.vals_one l) (by unfold maxLen; omega) HS.size (by omega) rfl rfl ?_
                intro A83 c83 w61 HO hbb hc _
                replace HS := HS.trans hbb
                replace HB := HB.trans (hbb.mono R_HB.size)
                replace HS85 := HS85.chg hc (Fw.ownBlk_ne (by omega))
                clear hbb hc
                refine Fw.hNext HS ?_
                refine Fw.hAll1 5 (by kernel_rfl) ?_
                refine Fw.hOp 5 rfl ?_
                refine Fw.append (l.length + 1) (Hi.vals (l ++ [⟨v.t, v.e, v.b, v.d, Hi.sl 14695981039346656037 v⟩])) sl22 rfl rfl HO (show Rd _ _ (Hi.V.cells ⟨v.t, v.e, v.b, v.d, Hi.sl 14695981039346656037 v⟩) from Fw.rdBlk HS85) rfl (Fw.oneCellsL rfl) (by unfold maxLen; omega) HS.size rfl (by rw [Hi.vals_append]; rfl) rfl ?_
                intro A86 c86 w62 HO2 hbb hc _
                replace HS := HS.trans hbb
                replace HB := HB.trans (hbb.mono R_HB.size)
                clear hbb hc
                refine Fw.hNext HS ?_
                refine Fw.hTake 8 rfl rfl (by kernel_rfl) (by kernel_rfl) (by kernel_rfl) (Fw.yV (Fw.val_assign rfl)) rfl ?_
                refine Fw.hTake 9 rfl rfl (by kernel_rfl) (by kernel_rfl) (by kernel_rfl) (Fw.yV (Fw.val_assign rfl)) rfl ?_
                refine Fw.hTake 10 rfl rfl (by kernel_rfl) (by kernel_rfl) (by kernel_rfl) (Fw.yV (Fw.val_assign rfl)) rfl ?_
                refine Fw.hDone (by kernel_rfl) ?_
                refine hK37 _ _ (Fw.FC.sub (f' := [(6, _), (5, _), (4, _)]) (.cons rfl (.cons rfl (.cons rfl .nil))) ?_)
                refine Fw.ret ?_
                refine Fw.ret_ [.tmp 4, .tmp 5, .tmp 6] [_, _, _] Try.results23 (.tmp rfl (.tmp rfl (.tmp rfl .nil))) ?_
                have hr1 : Hi.rg v.t = true := decide_eq_true (by omega)
                have hr2 : Hi.rg v.e = true := decide_eq_true (by omega)
                obtain ⟨q1, q2, q3⟩ := Hi.app_first (l := l) (v := v) hr1 hr2 (List.eq_nil_of_length_eq_zero (by omega))
                rw [q1, q2, q3]
                exact ⟨_, _, by rw [List.length_append]; rfl, Fw.RdT.own HO2, HB⟩
            · skip
              refine Fw.hOp 4 rfl ?_
              refine Fw.buildSlice [_] sl22 rfl rfl (by exact Fw.allSz rfl) (by decide) rfl ?_
              intro w63 gS85 egS85 HS85 hb
              have rgS85 : w54.heap.size ≤ gS85 := by have := HS.size; omega
              have n_gX_gS85 : gX < gS85 := by have := HX.lt; omega
              have lgS85 : w.heap.size ≤ gS85 := by have := HB.size; omega
              replace HX := HX.low hb
              replace HS := HS.trans (hb.mono HS.size)
              replace HB := HB.trans (hb.mono HB.size)
              clear hb
              clear egS85
              refine Fw.hNext HS ?_
              refine Fw.hAll1 0 (by kernel_rfl) ?_
              refine Fw.hOp 0 rfl ?_
              refine Fw.buildSlice [] sl22 rfl rfl (by exact Fw.allSz rfl) (by decide) rfl ?_
              intro w64 gS81 egS81 HS81 hb
              have rgS81 : w54.heap.size ≤ gS81 := by have := HS.size; omega
              have n_gX_gS81 : gX < gS81 := by have := HX.lt; omega
              have n_gS85_gS81 : gS85 < gS81 := by have := HS85.lt; omega
              have lgS81 : w.heap.size ≤ gS81 := by have := HB.size; omega
              replace HX := HX.low hb
              replace HS := HS.trans (hb.mono HS.size)
              replace HS85 := HS85.low hb
              replace HB := HB.trans (hb.mono HB.size)
              clear hb
              clear egS81
              refine Fw.hNext HS ?_
              refine Fw.hAll1 2 (by kernel_rfl) ?_
              refine Fw.hOp 2 rfl ?_
              refine Fw.append l.length (Hi.vals l) sl22 rfl rfl (Fw.ownBlk (base := w54.heap.size) HS81 (by omega) (by unfold maxLen; omega) rfl) (h.1.low HB) (Hi.vals_len l) (Hi.vals_one l) (by unfold maxLen; omega) HS.size (by omega) rfl rfl ?_
              intro A83 c83 w65 HO hbb hc _
              replace HS := HS.trans hbb
              replace HB := HB.trans (hbb.mono R_HB.size)
              replace HS85 := HS85.chg hc (Fw.ownBlk_ne (by omega))
              clear hbb hc
              refine Fw.hNext HS ?_
              refine Fw.hAll1 5 (by kernel_rfl) ?_
              refine Fw.hOp 5 rfl ?_
              refine Fw.append (l.length + 1) (Hi.vals (l ++ [⟨v.t, v.e, v.b, v.d, Hi.sl 14695981039346656037 v⟩])) sl22 rfl rfl HO (show Rd _ _ (Hi.V.cells ⟨v.t, v.e, v.b, v.d, Hi.sl 14695981039346656037 v⟩) from Fw.rdBlk HS85) rfl (Fw.oneCellsL rfl) (by unfold maxLen; omega) HS.size rfl (by rw [Hi.vals_append]; rfl) rfl ?_
              intro A86 c86 w66 HO2 hbb hc _
              replace HS := HS.trans hbb
              replace HB := HB.trans (hbb.mono R_HB.size)
              clear hbb hc
              refine Fw.hNext HS ?_
              refine Fw.hTake 8 rfl rfl (by kernel_rfl) (by kernel_rfl) (by kernel_rfl) (Fw.yV (Fw.val_assign rfl)) rfl ?_
              refine Fw.hTake 9 rfl rfl (by kernel_rfl) (by kernel_rfl) (by kernel_rfl) (Fw.yV (Fw.val_assign rfl)) rfl ?_
              refine Fw.hTake 10 rfl rfl (by kernel_rfl) (by kernel_rfl) (by kernel_rfl) (Fw.yV (Fw.val_assign rfl)) rfl ?_
              refine Fw.hDone (by kernel_rfl) ?_
              refine hK37 _ _ (Fw.FC.sub (f' := [(6, _), (5, _), (4, _)]) (.cons rfl (.cons rfl (.cons rfl .nil))) ?_)
              refine Fw.ret ?_
              refine Fw.ret_ [.tmp 4, .tmp 5, .tmp 6] [_, _, _] Try.results23 (.tmp rfl (.tmp rfl (.tmp rfl .nil))) ?_
              have hr1 : Hi.rg v.t = true := decide_eq_true (by omega)
              have hr2 : Hi.rg v.e = true := decide_eq_true (by omega)
              obtain ⟨q1, q2, q3⟩ := Hi.app_first (l := l) (v := v) hr1 hr2 (List.eq_nil_of_length_eq_zero (by omega))
              rw [q1, q2, q3]
              exact ⟨_, _, by rw [List.length_append]; rfl, Fw.RdT.own HO2, HB⟩
end Go.Proofs.Ytgmhcfhmpjpomaa
