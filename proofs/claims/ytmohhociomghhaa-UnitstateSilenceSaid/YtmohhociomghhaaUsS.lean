/- Layer 27: what the reference does with orders and reports. -/
import Derived.Test.YtmohhociomghhaaUsR
namespace Go.Proofs.Ytmohhociomghhaa
set_option linter.unusedSimpArgs false
set_option linter.unusedVariables false
open Go.RowKit

namespace Us
/-- the units' numbers are their places -/
def Wf (l : List U) : Prop := ∀ i (h : i < l.length), l[i].id = i
end Us
set_option maxRecDepth 100000 in
set_option maxHeartbeats 1000000 in
theorem rbind_any (w : World) (A : Option Addr) (l : List Us.U) (c : Nat) (id inc e n : Int) (h : Fw.RdT w 40 A (l.flatMap Us.U.cells)) (hw : Us.Wf l) (hl : l.length ≤ 256) : Calls Try.prog 33 #[.slice A l.length c, .int .i64 id, .int .i64 inc, .int .i64 e, .int .i64 n] w fun e_ w' => ∃ A' c', e_ = .returned (.tuple #[.slice A' (Us.bindL l id inc e n).length c', .int .i64 (Us.bindE l id inc e n)]) ∧ Fw.RdT w' 40 A' ((Us.bindL l id inc e n).flatMap Us.U.cells) ∧ Below w.heap.size w w' := by
  cases hth : Us.there l id with
  | true =>
    obtain ⟨i, hid, hi⟩ : ∃ i : Nat, id = i ∧ i < l.length := by have := of_decide_eq_true hth; exact ⟨(id).toNat, by omega, by omega⟩
    have hg := Us.get_at hid hi
    have hwi := hw i hi
    obtain ⟨ad, b, o, hA, hadd, HE⟩ := Fw.rdAt Us.U.len (by decide) h.1 i hi
    refine Fw.calls Try.func33 rfl Try.ntmps33 rfl ?_
    have HB := Below.refl (w.heap.size) w
    refine Fw.seq fun _ hK1 => ?_
    refine Fw.region ?_
    refine Fw.s (Fw.val_assign rfl) rfl ?_
    refine Fw.s (Fw.val_assign rfl) rfl ?_
    refine Fw.nil ?_
    refine hK1 _ _ ?_
    refine Fw.seq fun _ hK2 => ?_
    refine Fw.seq fun _ hK3 => ?_
    refine Fw.region ?_
    refine Fw.s (Fw.val_move rfl) rfl ?_
    refine Fw.s (Fw.val_move rfl) rfl ?_
    refine Fw.call cf49 rfl rfl (rthere_any _ A l c _) ?_
    rintro e_ _ ⟨rfl, rfl⟩
    refine ⟨_, rfl, ?_⟩
    refine Fw.bT (by exact hth) ?_
    refine Fw.s (Fw.val_not rfl) rfl ?_
    refine Fw.s (Fw.val_move rfl) rfl ?_
    refine Fw.gT (d := 17) rfl rfl ?_
    refine Fw.s (Fw.val_move rfl) rfl ?_
    refine Fw.gT (d := 17) rfl rfl ?_
    refine Fw.s2 (Fw.val_bin rfl rfl Fw.b_lss) rfl ?_ ?_
    · rintro c1
      refine Fw.s (Fw.val_pickF rfl rfl) rfl ?_
      refine Fw.s (Fw.val_move rfl) rfl ?_
      refine Fw.gF (d := 21) rfl rfl rfl rfl ?_
      refine Fw.gF (d := 21) rfl rfl rfl rfl ?_
      refine Fw.s (Fw.val_pickT rfl rfl) rfl ?_
      refine Fw.s (Fw.val_move rfl) rfl ?_
      refine Fw.gF (d := 25) rfl rfl rfl rfl ?_
      refine Fw.gF (d := 25) rfl rfl rfl rfl ?_
      refine Fw.gF (d := 25) rfl rfl rfl rfl ?_
      refine Fw.gF (d := 25) rfl rfl rfl rfl ?_
      refine Fw.gF (d := 25) rfl rfl rfl rfl ?_
      refine Fw.gF (d := 25) rfl rfl rfl rfl ?_
      refine Fw.gF (d := 25) rfl rfl rfl rfl ?_
      refine Fw.s (Fw.val_pickT rfl rfl) rfl ?_
      refine Fw.s (Fw.val_move rfl) rfl ?_
      refine Fw.gF (d := 34) rfl rfl rfl rfl ?_
      refine Fw.gF (d := 34) rfl rfl rfl rfl ?_
      refine Fw.gF (d := 34) rfl rfl rfl rfl ?_
      refine Fw.s (Fw.val_pickT rfl rfl) rfl ?_
      refine Fw.nil ?_
      refine hK3 _ _ (Fw.FC.sub (f' := [(38, _), (0, _), (1, _), (2, _), (3, _), (4, _)]) (.cons rfl (.cons rfl (.cons rfl (.cons rfl (.cons rfl (.cons rfl .nil)))))) ?_)
      refine Fw.condT rfl ?_
      refine Fw.seq fun _ hK5 => ?_
      refine Fw.region ?_
      refine Fw.s (Fw.val_move rfl) rfl ?_
      refine Fw.s (Fw.val_assign rfl) rfl ?_
      refine Fw.s (Fw.val_assign rfl) rfl ?_
      refine Fw.nil ?_
      refine hK5 _ _ (Fw.FC.sub (f' := [(11, _), (10, _)]) (.cons rfl (.cons rfl .nil)) ?_)
      refine Fw.ret ?_
      refine Fw.X_ret ?_
      refine Fw.ret_ [.tmp 10, .tmp 11] [_, _] Try.results33 (.tmp rfl (.tmp rfl .nil)) ?_
      have hf : Us.incB inc = false := decide_eq_false (by omega)
      have hE : Us.bindE l id inc e n = 1 := by unfold Us.bindE; rw [hth, hg]; simp [hf]
      have hL : Us.bindL l id inc e n = l := by unfold Us.bindL; rw [hE]; rfl
      rw [hE, hL]
      exact ⟨_, _, rfl, h.low HB, HB⟩
    · rintro c1
      refine Fw.s (Fw.val_pickF rfl rfl) rfl ?_
      refine Fw.s (Fw.val_move rfl) rfl ?_
      refine Fw.gT (d := 21) rfl rfl ?_
      refine Fw.s (Fw.val_move rfl) rfl ?_
      refine Fw.gT (d := 21) rfl rfl ?_
      refine Fw.s2 (Fw.val_bin rfl rfl Fw.b_gtr) rfl ?_ ?_
      · rintro c2
        refine Fw.s (Fw.val_pickF rfl rfl) rfl ?_
        refine Fw.s (Fw.val_move rfl) rfl ?_
        refine Fw.gF (d := 25) rfl rfl rfl rfl ?_
        refine Fw.gF (d := 25) rfl rfl rfl rfl ?_
        refine Fw.gF (d := 25) rfl rfl rfl rfl ?_
        refine Fw.gF (d := 25) rfl rfl rfl rfl ?_
        refine Fw.gF (d := 25) rfl rfl rfl rfl ?_
        refine Fw.gF (d := 25) rfl rfl rfl rfl ?_
        refine Fw.gF (d := 25) rfl rfl rfl rfl ?_
        refine Fw.s (Fw.val_pickT rfl rfl) rfl ?_
        refine Fw.s (Fw.val_move rfl) rfl ?_
        refine Fw.gF (d := 34) rfl rfl rfl rfl ?_
        refine Fw.gF (d := 34) rfl rfl rfl rfl ?_
        refine Fw.gF (d := 34) rfl rfl rfl rfl ?_
        refine Fw.s (Fw.val_pickT rfl rfl) rfl ?_
        refine Fw.nil ?_
        refine hK3 _ _ (Fw.FC.sub (f' := [(38, _), (0, _), (1, _), (2, _), (3, _), (4, _)]) (.cons rfl (.cons rfl (.cons rfl (.cons rfl (.cons rfl (.cons rfl .nil)))))) ?_)
        refine Fw.condT rfl ?_
        refine Fw.seq fun _ hK7 => ?_
        refine Fw.region ?_
        refine Fw.s (Fw.val_move rfl) rfl ?_
        refine Fw.s (Fw.val_assign rfl) rfl ?_
        refine Fw.s (Fw.val_assign rfl) rfl ?_
        refine Fw.nil ?_
        refine hK7 _ _ (Fw.FC.sub (f' := [(11, _), (10, _)]) (.cons rfl (.cons rfl .nil)) ?_)
        refine Fw.ret ?_
        refine Fw.X_ret ?_
        refine Fw.ret_ [.tmp 10, .tmp 11] [_, _] Try.results33 (.tmp rfl (.tmp rfl .nil)) ?_
        have hf : Us.incB inc = false := decide_eq_false (by omega)
        have hE : Us.bindE l id inc e n = 1 := by unfold Us.bindE; rw [hth, hg]; simp [hf]
        have hL : Us.bindL l id inc e n = l := by unfold Us.bindL; rw [hE]; rfl
        rw [hE, hL]
        exact ⟨_, _, rfl, h.low HB, HB⟩
      · rintro c2
        refine Fw.s (Fw.val_pickF rfl rfl) rfl ?_
        refine Fw.s (Fw.val_move rfl) rfl ?_
        refine Fw.gT (d := 25) rfl rfl ?_
        refine Fw.s (Fw.val_move rfl) rfl ?_
        refine Fw.gT (d := 25) rfl rfl ?_
        refine Fw.s (Fw.val_move rfl) rfl ?_
        refine Fw.gT (d := 25) rfl rfl ?_
        refine Fw.s (Fw.val_indexR Try.underlying28 sz40 rfl hA rfl hid hi hadd) rfl ?_
        refine Fw.gT (d := 25) rfl rfl ?_
        refine Fw.ldA ag40 rfl ((HE.low HB)) rfl rfl ?_
        refine Fw.gT (d := 25) rfl rfl ?_
        refine Fw.s (Fw.val_move rfl) rfl ?_
        refine Fw.gT (d := 25) rfl rfl ?_
        refine Fw.call cf52 rfl rfl (rright_any l[i] e _) ?_
        rintro e_ w1 ⟨rfl, hb⟩
        refine ⟨_, rfl, ?_⟩
        replace HB := HB.trans (hb.mono HB.size)
        clear hb
        refine Fw.b2 ?_ ?_
        · rintro c3
          refine Fw.gT (d := 25) rfl rfl ?_
          refine Fw.s (Fw.val_not rfl) rfl ?_
          refine Fw.s (Fw.val_pickF rfl rfl) rfl ?_
          refine Fw.s (Fw.val_move rfl) rfl ?_
          refine Fw.gT (d := 34) rfl rfl ?_
          refine Fw.s (Fw.val_move rfl) rfl ?_
          refine Fw.gT (d := 34) rfl rfl ?_
          refine Fw.call cf50 rfl rfl (rnode_any _ _) ?_
          rintro e_ _ ⟨rfl, rfl⟩
          refine ⟨_, rfl, ?_⟩
          refine Fw.b2 ?_ ?_
          · rintro c4
            refine Fw.gT (d := 34) rfl rfl ?_
            refine Fw.s (Fw.val_not rfl) rfl ?_
            refine Fw.s (Fw.val_pickF rfl rfl) rfl ?_
            refine Fw.nil ?_
            refine hK3 _ _ (Fw.FC.sub (f' := [(38, _), (0, _), (1, _), (2, _), (3, _), (4, _)]) (.cons rfl (.cons rfl (.cons rfl (.cons rfl (.cons rfl (.cons rfl .nil)))))) ?_)
            refine Fw.condF rfl ?_
            refine Fw.skip ?_
            refine hK2 _ _ ?_
            refine Fw.seq fun _ hK9 => ?_
            refine Fw.region ?_
            refine Fw.s (Fw.val_move rfl) rfl ?_
            refine Fw.s (Fw.val_move rfl) rfl ?_
            refine Fw.s (Fw.val_indexR Try.underlying28 sz40 rfl hA rfl hid hi hadd) rfl ?_
            refine Fw.ldA ag40 rfl ((HE.low HB)) rfl rfl ?_
            refine Fw.alloc ze40 rfl ?_
            intro w2 gX12 egX12 HX12 hb
            have lgX12 : w.heap.size ≤ gX12 := by have := HB.size; omega
            replace HB := HB.trans (hb.mono HB.size)
            clear hb
            clear egX12
            refine Fw.storeW sz40 rfl rfl HX12 rfl rfl (by exact Fw.oneCells rfl) ?_
            intro w3 N_ hc
            replace HB := HB.trans (hc.below (B := w.heap.size) (fun k e => by omega) HB.size)
            clear hc
            clear HX12
            have HX12 := N_
            clear N_
            refine Fw.nil ?_
            refine hK9 _ _ ?_
            refine Fw.seq fun _ hK11 => ?_
            refine Fw.seq fun _ hK12 => ?_
            refine Fw.region ?_
            refine Fw.s (Fw.val_fieldAddr fl40_0 rfl rfl) rfl ?_
            refine Fw.s (Fw.val_fieldAddr fl32_3 rfl rfl) rfl ?_
            refine Fw.ld sc3 rfl (HX12.cell 3) rfl ?_
            refine Fw.s2 (Fw.val_bin rfl rfl Fw.b_neq) rfl ?_ ?_
            · rintro hst
              refine Fw.nil ?_
              refine hK12 _ _ (Fw.FC.sub (f' := [(47, _), (12, _), (0, _), (2, _), (3, _), (4, _)]) (.cons rfl (.cons rfl (.cons rfl (.cons rfl (.cons rfl (.cons rfl .nil)))))) ?_)
              refine Fw.condT rfl ?_
              refine Fw.seq fun _ hK14 => ?_
              refine Fw.region ?_
              refine Fw.s (Fw.val_move rfl) rfl ?_
              refine Fw.s (Fw.val_assign rfl) rfl ?_
              refine Fw.s (Fw.val_assign rfl) rfl ?_
              refine Fw.nil ?_
              refine hK14 _ _ (Fw.FC.sub (f' := [(11, _), (10, _)]) (.cons rfl (.cons rfl .nil)) ?_)
              refine Fw.ret ?_
              refine Fw.X_ret ?_
              refine Fw.ret_ [.tmp 10, .tmp 11] [_, _] Try.results33 (.tmp rfl (.tmp rfl .nil)) ?_
              have p1 : Us.incB inc = true := decide_eq_true (by omega)
              have hE : Us.bindE l id inc e n = 8 := by unfold Us.bindE; rw [hth, hg]; simp [p1, c3, c4, hst]
              have hL : Us.bindL l id inc e n = l := by unfold Us.bindL; rw [hE]; rfl
              rw [hE, hL]
              exact ⟨_, _, rfl, h.low HB, HB⟩
            · rintro hst
              refine Fw.nil ?_
              refine hK12 _ _ (Fw.FC.sub (f' := [(47, _), (12, _), (0, _), (2, _), (3, _), (4, _)]) (.cons rfl (.cons rfl (.cons rfl (.cons rfl (.cons rfl (.cons rfl .nil)))))) ?_)
              refine Fw.condF rfl ?_
              refine Fw.skip ?_
              refine hK11 _ _ ?_
              refine Fw.seq fun _ hK15 => ?_
              refine Fw.region ?_
              refine Fw.s (Fw.val_fieldAddr fl40_0 rfl rfl) rfl ?_
              refine Fw.s (Fw.val_fieldAddr fl32_3 rfl rfl) rfl ?_
              refine Fw.store sz3 rfl rfl HX12 rfl rfl rfl ?_
              intro w4 N_ hc
              replace HB := HB.trans (hc.below (B := w.heap.size) (fun k e => by omega) HB.size)
              clear hc
              clear HX12
              have HX12 := N_
              clear N_
              refine Fw.nil ?_
              refine hK15 _ _ ?_
              refine Fw.seq fun _ hK16 => ?_
              refine Fw.region ?_
              refine Fw.s (Fw.val_move rfl) rfl ?_
              refine Fw.s (Fw.val_fieldAddr fl40_0 rfl rfl) rfl ?_
              refine Fw.s (Fw.val_fieldAddr fl32_7 rfl rfl) rfl ?_
              refine Fw.store sz2 rfl rfl HX12 rfl rfl rfl ?_
              intro w5 N_ hc
              replace HB := HB.trans (hc.below (B := w.heap.size) (fun k e => by omega) HB.size)
              clear hc
              clear HX12
              have HX12 := N_
              clear N_
              refine Fw.nil ?_
              refine hK16 _ _ ?_
              refine Fw.seq fun _ hK17 => ?_
              refine Fw.region ?_
              refine Fw.s (Fw.val_move rfl) rfl ?_
              refine Fw.ldA ag40 rfl (Fw.rdBlk HX12) rfl rfl ?_
              refine Fw.s (Fw.val_move rfl) rfl ?_
              refine Fw.s (Fw.val_move rfl) rfl ?_
              refine Fw.s (Fw.val_move rfl) rfl ?_
              refine Fw.s (Fw.val_build (ps := [(1, _), (2, _), (3, _), (4, _)]) rfl (bu36_1_2_3_4 _ _ _ _)) rfl ?_
              refine Fw.call cf53 rfl rfl (rgiven_any { l[i] with state := 2, inc := inc } 0 e 1 inc n _) ?_
              rintro e_ w6 ⟨rfl, hb⟩
              refine ⟨_, rfl, ?_⟩
              replace HX12 := HX12.low hb
              replace HB := HB.trans (hb.mono HB.size)
              clear hb
              refine Fw.call cf54 rfl rfl (rwith_any _ A l c (Us.issue { l[i] with state := 2, inc := inc } e 1 inc n) i _ rfl (h.low HB) (by exact hwi) hi hl) ?_
              rintro e_ w7 ⟨A1, cc1, rfl, HW, hb⟩
              refine ⟨_, rfl, ?_⟩
              replace HX12 := HX12.low hb
              replace HB := HB.trans (hb.mono HB.size)
              clear hb
              refine Fw.s (Fw.val_assign rfl) rfl ?_
              refine Fw.s (Fw.val_assign rfl) rfl ?_
              refine Fw.nil ?_
              refine hK17 _ _ (Fw.FC.sub (f' := [(11, _), (10, _)]) (.cons rfl (.cons rfl .nil)) ?_)
              refine Fw.ret ?_
              refine Fw.ret_ [.tmp 10, .tmp 11] [_, _] Try.results33 (.tmp rfl (.tmp rfl .nil)) ?_
              have p1 : Us.incB inc = true := decide_eq_true (by omega)
              have hE : Us.bindE l id inc e n = 0 := by unfold Us.bindE; rw [hth, hg]; simp [p1, c3, c4, hst]
              have hL : Us.bindL l id inc e n = l.set i (Us.issue { l[i] with state := 2, inc := inc } e 1 inc n) := by
                unfold Us.bindL; rw [if_pos hE, hg]; unfold Us.put; rw [hid, Int.toNat_natCast]
              rw [hE, hL]
              exact ⟨_, _, by rw [List.length_set]; rfl, HW, HB⟩
          · rintro c4
            refine Fw.gT (d := 34) rfl rfl ?_
            refine Fw.s (Fw.val_not rfl) rfl ?_
            refine Fw.s (Fw.val_pickF rfl rfl) rfl ?_
            refine Fw.nil ?_
            refine hK3 _ _ (Fw.FC.sub (f' := [(38, _), (0, _), (1, _), (2, _), (3, _), (4, _)]) (.cons rfl (.cons rfl (.cons rfl (.cons rfl (.cons rfl (.cons rfl .nil)))))) ?_)
            refine Fw.condT rfl ?_
            refine Fw.seq fun _ hK18 => ?_
            refine Fw.region ?_
            refine Fw.s (Fw.val_move rfl) rfl ?_
            refine Fw.s (Fw.val_assign rfl) rfl ?_
            refine Fw.s (Fw.val_assign rfl) rfl ?_
            refine Fw.nil ?_
            refine hK18 _ _ (Fw.FC.sub (f' := [(11, _), (10, _)]) (.cons rfl (.cons rfl .nil)) ?_)
            refine Fw.ret ?_
            refine Fw.X_ret ?_
            refine Fw.ret_ [.tmp 10, .tmp 11] [_, _] Try.results33 (.tmp rfl (.tmp rfl .nil)) ?_
            have hf := c4
            have hE : Us.bindE l id inc e n = 1 := by unfold Us.bindE; rw [hth, hg]; simp [hf]
            have hL : Us.bindL l id inc e n = l := by unfold Us.bindL; rw [hE]; rfl
            rw [hE, hL]
            exact ⟨_, _, rfl, h.low HB, HB⟩
        · rintro c3
          refine Fw.gT (d := 25) rfl rfl ?_
          refine Fw.s (Fw.val_not rfl) rfl ?_
          refine Fw.s (Fw.val_pickF rfl rfl) rfl ?_
          refine Fw.s (Fw.val_move rfl) rfl ?_
          refine Fw.gF (d := 34) rfl rfl rfl rfl ?_
          refine Fw.gF (d := 34) rfl rfl rfl rfl ?_
          refine Fw.gF (d := 34) rfl rfl rfl rfl ?_
          refine Fw.s (Fw.val_pickT rfl rfl) rfl ?_
          refine Fw.nil ?_
          refine hK3 _ _ (Fw.FC.sub (f' := [(38, _), (0, _), (1, _), (2, _), (3, _), (4, _)]) (.cons rfl (.cons rfl (.cons rfl (.cons rfl (.cons rfl (.cons rfl .nil)))))) ?_)
          refine Fw.condT rfl ?_
          refine Fw.seq fun _ hK19 => ?_
          refine Fw.region ?_
          refine Fw.s (Fw.val_move rfl) rfl ?_
          refine Fw.s (Fw.val_assign rfl) rfl ?_
          refine Fw.s (Fw.val_assign rfl) rfl ?_
          refine Fw.nil ?_
          refine hK19 _ _ (Fw.FC.sub (f' := [(11, _), (10, _)]) (.cons rfl (.cons rfl .nil)) ?_)
          refine Fw.ret ?_
          refine Fw.X_ret ?_
          refine Fw.ret_ [.tmp 10, .tmp 11] [_, _] Try.results33 (.tmp rfl (.tmp rfl .nil)) ?_
          have hf := c3
          have hE : Us.bindE l id inc e n = 1 := by unfold Us.bindE; rw [hth, hg]; simp [hf]
          have hL : Us.bindL l id inc e n = l := by unfold Us.bindL; rw [hE]; rfl
          rw [hE, hL]
          exact ⟨_, _, rfl, h.low HB, HB⟩
  | false =>
    refine Fw.calls Try.func33 rfl Try.ntmps33 rfl ?_
    have HB := Below.refl (w.heap.size) w
    refine Fw.seq fun _ hK1 => ?_
    refine Fw.region ?_
    refine Fw.s (Fw.val_assign rfl) rfl ?_
    refine Fw.s (Fw.val_assign rfl) rfl ?_
    refine Fw.nil ?_
    refine hK1 _ _ ?_
    refine Fw.seq fun _ hK2 => ?_
    refine Fw.seq fun _ hK3 => ?_
    refine Fw.region ?_
    refine Fw.s (Fw.val_move rfl) rfl ?_
    refine Fw.s (Fw.val_move rfl) rfl ?_
    refine Fw.call cf49 rfl rfl (rthere_any _ A l c _) ?_
    rintro e_ _ ⟨rfl, rfl⟩
    refine ⟨_, rfl, ?_⟩
    refine Fw.bF (by exact hth) ?_
    refine Fw.s (Fw.val_not rfl) rfl ?_
    refine Fw.s (Fw.val_move rfl) rfl ?_
    refine Fw.gF (d := 17) rfl rfl rfl rfl ?_
    refine Fw.gF (d := 17) rfl rfl rfl rfl ?_
    refine Fw.s (Fw.val_pickT rfl rfl) rfl ?_
    refine Fw.s (Fw.val_move rfl) rfl ?_
    refine Fw.gF (d := 21) rfl rfl rfl rfl ?_
    refine Fw.gF (d := 21) rfl rfl rfl rfl ?_
    refine Fw.s (Fw.val_pickT rfl rfl) rfl ?_
    refine Fw.s (Fw.val_move rfl) rfl ?_
    refine Fw.gF (d := 25) rfl rfl rfl rfl ?_
    refine Fw.gF (d := 25) rfl rfl rfl rfl ?_
    refine Fw.gF (d := 25) rfl rfl rfl rfl ?_
    refine Fw.gF (d := 25) rfl rfl rfl rfl ?_
    refine Fw.gF (d := 25) rfl rfl rfl rfl ?_
    refine Fw.gF (d := 25) rfl rfl rfl rfl ?_
    refine Fw.gF (d := 25) rfl rfl rfl rfl ?_
    refine Fw.s (Fw.val_pickT rfl rfl) rfl ?_
    refine Fw.s (Fw.val_move rfl) rfl ?_
    refine Fw.gF (d := 34) rfl rfl rfl rfl ?_
    refine Fw.gF (d := 34) rfl rfl rfl rfl ?_
    refine Fw.gF (d := 34) rfl rfl rfl rfl ?_
    refine Fw.s (Fw.val_pickT rfl rfl) rfl ?_
    refine Fw.nil ?_
    refine hK3 _ _ (Fw.FC.sub (f' := [(38, _), (0, _), (1, _), (2, _), (3, _), (4, _)]) (.cons rfl (.cons rfl (.cons rfl (.cons rfl (.cons rfl (.cons rfl .nil)))))) ?_)
    refine Fw.condT rfl ?_
    refine Fw.seq fun _ hK4 => ?_
    refine Fw.region ?_
    refine Fw.s (Fw.val_move rfl) rfl ?_
    refine Fw.s (Fw.val_assign rfl) rfl ?_
    refine Fw.s (Fw.val_assign rfl) rfl ?_
    refine Fw.nil ?_
    refine hK4 _ _ (Fw.FC.sub (f' := [(11, _), (10, _)]) (.cons rfl (.cons rfl .nil)) ?_)
    refine Fw.ret ?_
    refine Fw.X_ret ?_
    refine Fw.ret_ [.tmp 10, .tmp 11] [_, _] Try.results33 (.tmp rfl (.tmp rfl .nil)) ?_
    have hE : Us.bindE l id inc e n = 1 := by unfold Us.bindE; rw [hth]; simp
    have hL : Us.bindL l id inc e n = l := by unfold Us.bindL; rw [hE]; rfl
    rw [hE, hL]
    exact ⟨_, _, rfl, h.low HB, HB⟩

set_option maxRecDepth 100000 in
set_option maxHeartbeats 1000000 in
theorem rmove_any (w : World) (A : Option Addr) (l : List Us.U) (c : Nat) (id n e : Int) (h : Fw.RdT w 40 A (l.flatMap Us.U.cells)) (hw : Us.Wf l) (hl : l.length ≤ 256) : Calls Try.prog 36 #[.slice A l.length c, .int .i64 id, .int .i64 n, .int .i64 e] w fun e_ w' => ∃ A' c', e_ = .returned (.tuple #[.slice A' (Us.moveL l id n e).length c', .int .i64 (Us.moveE l id n e)]) ∧ Fw.RdT w' 40 A' ((Us.moveL l id n e).flatMap Us.U.cells) ∧ Below w.heap.size w w' := by
  cases hth : Us.there l id with
  | true =>
    obtain ⟨i, hid, hi⟩ : ∃ i : Nat, id = i ∧ i < l.length := by have := of_decide_eq_true hth; exact ⟨(id).toNat, by omega, by omega⟩
    have hg := Us.get_at hid hi
    have hwi := hw i hi
    obtain ⟨ad, b, o, hA, hadd, HE⟩ := Fw.rdAt Us.U.len (by decide) h.1 i hi
    refine Fw.calls Try.func36 rfl Try.ntmps36 rfl ?_
    have HB := Below.refl (w.heap.size) w
    refine Fw.seq fun _ hK1 => ?_
    refine Fw.region ?_
    refine Fw.s (Fw.val_assign rfl) rfl ?_
    refine Fw.s (Fw.val_assign rfl) rfl ?_
    refine Fw.nil ?_
    refine hK1 _ _ ?_
    refine Fw.seq fun _ hK2 => ?_
    refine Fw.seq fun _ hK3 => ?_
    refine Fw.region ?_
    refine Fw.s (Fw.val_move rfl) rfl ?_
    refine Fw.s (Fw.val_move rfl) rfl ?_
    refine Fw.call cf49 rfl rfl (rthere_any _ A l c _) ?_
    rintro e_ _ ⟨rfl, rfl⟩
    refine ⟨_, rfl, ?_⟩
    refine Fw.bT (by exact hth) ?_
    refine Fw.s (Fw.val_not rfl) rfl ?_
    refine Fw.s (Fw.val_move rfl) rfl ?_
    refine Fw.gT (d := 15) rfl rfl ?_
    refine Fw.s (Fw.val_move rfl) rfl ?_
    refine Fw.gT (d := 15) rfl rfl ?_
    refine Fw.call cf50 rfl rfl (rnode_any _ _) ?_
    rintro e_ _ ⟨rfl, rfl⟩
    refine ⟨_, rfl, ?_⟩
    refine Fw.b2 ?_ ?_
    · rintro c1
      refine Fw.gT (d := 15) rfl rfl ?_
      refine Fw.s (Fw.val_not rfl) rfl ?_
      refine Fw.s (Fw.val_pickF rfl rfl) rfl ?_
      refine Fw.s (Fw.val_move rfl) rfl ?_
      refine Fw.gT (d := 20) rfl rfl ?_
      refine Fw.s (Fw.val_move rfl) rfl ?_
      refine Fw.gT (d := 20) rfl rfl ?_
      refine Fw.s (Fw.val_move rfl) rfl ?_
      refine Fw.gT (d := 20) rfl rfl ?_
      refine Fw.s (Fw.val_indexR Try.underlying28 sz40 rfl hA rfl hid hi hadd) rfl ?_
      refine Fw.gT (d := 20) rfl rfl ?_
      refine Fw.ldA ag40 rfl ((HE.low HB)) rfl rfl ?_
      refine Fw.gT (d := 20) rfl rfl ?_
      refine Fw.s (Fw.val_move rfl) rfl ?_
      refine Fw.gT (d := 20) rfl rfl ?_
      refine Fw.call cf52 rfl rfl (rright_any l[i] e _) ?_
      rintro e_ w1 ⟨rfl, hb⟩
      refine ⟨_, rfl, ?_⟩
      replace HB := HB.trans (hb.mono HB.size)
      clear hb
      refine Fw.b2 ?_ ?_
      · rintro c2
        refine Fw.gT (d := 20) rfl rfl ?_
        refine Fw.s (Fw.val_not rfl) rfl ?_
        refine Fw.s (Fw.val_pickF rfl rfl) rfl ?_
        refine Fw.nil ?_
        refine hK3 _ _ (Fw.FC.sub (f' := [(28, _), (0, _), (1, _), (2, _), (3, _)]) (.cons rfl (.cons rfl (.cons rfl (.cons rfl (.cons rfl .nil))))) ?_)
        refine Fw.condF rfl ?_
        refine Fw.skip ?_
        refine hK2 _ _ ?_
        refine Fw.seq fun _ hK5 => ?_
        refine Fw.region ?_
        refine Fw.s (Fw.val_move rfl) rfl ?_
        refine Fw.s (Fw.val_move rfl) rfl ?_
        refine Fw.s (Fw.val_indexR Try.underlying28 sz40 rfl hA rfl hid hi hadd) rfl ?_
        refine Fw.ldA ag40 rfl ((HE.low HB)) rfl rfl ?_
        refine Fw.alloc ze40 rfl ?_
        intro w2 gX10 egX10 HX10 hb
        have lgX10 : w.heap.size ≤ gX10 := by have := HB.size; omega
        replace HB := HB.trans (hb.mono HB.size)
        clear hb
        clear egX10
        refine Fw.storeW sz40 rfl rfl HX10 rfl rfl (by exact Fw.oneCells rfl) ?_
        intro w3 N_ hc
        replace HB := HB.trans (hc.below (B := w.heap.size) (fun k e => by omega) HB.size)
        clear hc
        clear HX10
        have HX10 := N_
        clear N_
        refine Fw.nil ?_
        refine hK5 _ _ ?_
        refine Fw.seq fun _ hK7 => ?_
        refine Fw.seq fun _ hK8 => ?_
        refine Fw.region ?_
        refine Fw.s (Fw.val_fieldAddr fl40_0 rfl rfl) rfl ?_
        refine Fw.s (Fw.val_fieldAddr fl32_3 rfl rfl) rfl ?_
        refine Fw.ld sc3 rfl (HX10.cell 3) rfl ?_
        refine Fw.s2 (Fw.val_bin rfl rfl Fw.b_neq) rfl ?_ ?_
        · rintro hst
          refine Fw.nil ?_
          refine hK8 _ _ (Fw.FC.sub (f' := [(37, _), (10, _), (0, _), (2, _), (3, _)]) (.cons rfl (.cons rfl (.cons rfl (.cons rfl (.cons rfl .nil))))) ?_)
          refine Fw.condT rfl ?_
          refine Fw.seq fun _ hK10 => ?_
          refine Fw.region ?_
          refine Fw.s (Fw.val_move rfl) rfl ?_
          refine Fw.s (Fw.val_assign rfl) rfl ?_
          refine Fw.s (Fw.val_assign rfl) rfl ?_
          refine Fw.nil ?_
          refine hK10 _ _ ?_
          refine Fw.ret ?_
          refine Fw.X_ret ?_
          refine Fw.ret_ [.tmp 8, .tmp 9] [_, _] Try.results36 (.tmp rfl (.tmp rfl .nil)) ?_
          have hE : Us.moveE l id n e = 8 := by unfold Us.moveE; rw [hth, hg]; simp [c1, c2, hst]
          have hL : Us.moveL l id n e = l := by unfold Us.moveL; rw [hE]; rfl
          rw [hE, hL]
          exact ⟨_, _, rfl, h.low HB, HB⟩
        · rintro hst
          refine Fw.nil ?_
          refine hK8 _ _ (Fw.FC.sub (f' := [(37, _), (10, _), (0, _), (2, _), (3, _)]) (.cons rfl (.cons rfl (.cons rfl (.cons rfl (.cons rfl .nil))))) ?_)
          refine Fw.condF rfl ?_
          refine Fw.skip ?_
          refine hK7 _ _ ?_
          refine Fw.seq fun _ hK11 => ?_
          refine Fw.region ?_
          refine Fw.s (Fw.val_fieldAddr fl40_0 rfl rfl) rfl ?_
          refine Fw.s (Fw.val_fieldAddr fl32_3 rfl rfl) rfl ?_
          refine Fw.store sz3 rfl rfl HX10 rfl rfl rfl ?_
          intro w4 N_ hc
          replace HB := HB.trans (hc.below (B := w.heap.size) (fun k e => by omega) HB.size)
          clear hc
          clear HX10
          have HX10 := N_
          clear N_
          refine Fw.nil ?_
          refine hK11 _ _ ?_
          refine Fw.seq fun _ hK12 => ?_
          refine Fw.region ?_
          refine Fw.s (Fw.val_move rfl) rfl ?_
          refine Fw.ldA ag40 rfl (Fw.rdBlk HX10) rfl rfl ?_
          refine Fw.s (Fw.val_move rfl) rfl ?_
          refine Fw.s (Fw.val_move rfl) rfl ?_
          refine Fw.s (Fw.val_build (ps := [(1, _), (2, _), (4, _)]) rfl (bu36_1_2_4 _ _ _)) rfl ?_
          refine Fw.call cf53 rfl rfl (rgiven_any { l[i] with state := 2 } 0 e 3 0 n _) ?_
          rintro e_ w5 ⟨rfl, hb⟩
          refine ⟨_, rfl, ?_⟩
          replace HX10 := HX10.low hb
          replace HB := HB.trans (hb.mono HB.size)
          clear hb
          refine Fw.call cf54 rfl rfl (rwith_any _ A l c (Us.issue { l[i] with state := 2 } e 3 0 n) i _ rfl (h.low HB) (by exact hwi) hi hl) ?_
          rintro e_ w6 ⟨A1, cc1, rfl, HW, hb⟩
          refine ⟨_, rfl, ?_⟩
          replace HX10 := HX10.low hb
          replace HB := HB.trans (hb.mono HB.size)
          clear hb
          refine Fw.s (Fw.val_assign rfl) rfl ?_
          refine Fw.s (Fw.val_assign rfl) rfl ?_
          refine Fw.nil ?_
          refine hK12 _ _ (Fw.FC.sub (f' := [(9, _), (8, _)]) (.cons rfl (.cons rfl .nil)) ?_)
          refine Fw.ret ?_
          refine Fw.ret_ [.tmp 8, .tmp 9] [_, _] Try.results36 (.tmp rfl (.tmp rfl .nil)) ?_
          have hE : Us.moveE l id n e = 0 := by unfold Us.moveE; rw [hth, hg]; simp [c1, c2, hst]
          have hL : Us.moveL l id n e = l.set i (Us.issue { l[i] with state := 2 } e 3 0 n) := by
            unfold Us.moveL; rw [if_pos hE, hg]; unfold Us.put; rw [hid, Int.toNat_natCast]
          rw [hE, hL]
          exact ⟨_, _, by rw [List.length_set]; rfl, HW, HB⟩
      · rintro c2
        refine Fw.gT (d := 20) rfl rfl ?_
        refine Fw.s (Fw.val_not rfl) rfl ?_
        refine Fw.s (Fw.val_pickF rfl rfl) rfl ?_
        refine Fw.nil ?_
        refine hK3 _ _ (Fw.FC.sub (f' := [(28, _), (0, _), (1, _), (2, _), (3, _)]) (.cons rfl (.cons rfl (.cons rfl (.cons rfl (.cons rfl .nil))))) ?_)
        refine Fw.condT rfl ?_
        refine Fw.seq fun _ hK13 => ?_
        refine Fw.region ?_
        refine Fw.s (Fw.val_move rfl) rfl ?_
        refine Fw.s (Fw.val_assign rfl) rfl ?_
        refine Fw.s (Fw.val_assign rfl) rfl ?_
        refine Fw.nil ?_
        refine hK13 _ _ ?_
        refine Fw.ret ?_
        refine Fw.X_ret ?_
        refine Fw.ret_ [.tmp 8, .tmp 9] [_, _] Try.results36 (.tmp rfl (.tmp rfl .nil)) ?_
        have hf := c2
        have hE : Us.moveE l id n e = 1 := by unfold Us.moveE; rw [hth, hg]; simp [hf]
        have hL : Us.moveL l id n e = l := by unfold Us.moveL; rw [hE]; rfl
        rw [hE, hL]
        exact ⟨_, _, rfl, h.low HB, HB⟩
    · rintro c1
      refine Fw.gT (d := 15) rfl rfl ?_
      refine Fw.s (Fw.val_not rfl) rfl ?_
      refine Fw.s (Fw.val_pickF rfl rfl) rfl ?_
      refine Fw.s (Fw.val_move rfl) rfl ?_
      refine Fw.gF (d := 20) rfl rfl rfl rfl ?_
      refine Fw.gF (d := 20) rfl rfl rfl rfl ?_
      refine Fw.gF (d := 20) rfl rfl rfl rfl ?_
      refine Fw.gF (d := 20) rfl rfl rfl rfl ?_
      refine Fw.gF (d := 20) rfl rfl rfl rfl ?_
      refine Fw.gF (d := 20) rfl rfl rfl rfl ?_
      refine Fw.gF (d := 20) rfl rfl rfl rfl ?_
      refine Fw.s (Fw.val_pickT rfl rfl) rfl ?_
      refine Fw.nil ?_
      refine hK3 _ _ (Fw.FC.sub (f' := [(28, _), (0, _), (1, _), (2, _), (3, _)]) (.cons rfl (.cons rfl (.cons rfl (.cons rfl (.cons rfl .nil))))) ?_)
      refine Fw.condT rfl ?_
      refine Fw.seq fun _ hK14 => ?_
      refine Fw.region ?_
      refine Fw.s (Fw.val_move rfl) rfl ?_
      refine Fw.s (Fw.val_assign rfl) rfl ?_
      refine Fw.s (Fw.val_assign rfl) rfl ?_
      refine Fw.nil ?_
      refine hK14 _ _ ?_
      refine Fw.ret ?_
      refine Fw.X_ret ?_
      refine Fw.ret_ [.tmp 8, .tmp 9] [_, _] Try.results36 (.tmp rfl (.tmp rfl .nil)) ?_
      have hf := c1
      have hE : Us.moveE l id n e = 1 := by unfold Us.moveE; rw [hth, hg]; simp [hf]
      have hL : Us.moveL l id n e = l := by unfold Us.moveL; rw [hE]; rfl
      rw [hE, hL]
      exact ⟨_, _, rfl, h.low HB, HB⟩
  | false =>
    refine Fw.calls Try.func36 rfl Try.ntmps36 rfl ?_
    have HB := Below.refl (w.heap.size) w
    refine Fw.seq fun _ hK1 => ?_
    refine Fw.region ?_
    refine Fw.s (Fw.val_assign rfl) rfl ?_
    refine Fw.s (Fw.val_assign rfl) rfl ?_
    refine Fw.nil ?_
    refine hK1 _ _ ?_
    refine Fw.seq fun _ hK2 => ?_
    refine Fw.seq fun _ hK3 => ?_
    refine Fw.region ?_
    refine Fw.s (Fw.val_move rfl) rfl ?_
    refine Fw.s (Fw.val_move rfl) rfl ?_
    refine Fw.call cf49 rfl rfl (rthere_any _ A l c _) ?_
    rintro e_ _ ⟨rfl, rfl⟩
    refine ⟨_, rfl, ?_⟩
    refine Fw.bF (by exact hth) ?_
    refine Fw.s (Fw.val_not rfl) rfl ?_
    refine Fw.s (Fw.val_move rfl) rfl ?_
    refine Fw.gF (d := 15) rfl rfl rfl rfl ?_
    refine Fw.gF (d := 15) rfl rfl rfl rfl ?_
    refine Fw.gF (d := 15) rfl rfl rfl rfl ?_
    refine Fw.s (Fw.val_pickT rfl rfl) rfl ?_
    refine Fw.s (Fw.val_move rfl) rfl ?_
    refine Fw.gF (d := 20) rfl rfl rfl rfl ?_
    refine Fw.gF (d := 20) rfl rfl rfl rfl ?_
    refine Fw.gF (d := 20) rfl rfl rfl rfl ?_
    refine Fw.gF (d := 20) rfl rfl rfl rfl ?_
    refine Fw.gF (d := 20) rfl rfl rfl rfl ?_
    refine Fw.gF (d := 20) rfl rfl rfl rfl ?_
    refine Fw.gF (d := 20) rfl rfl rfl rfl ?_
    refine Fw.s (Fw.val_pickT rfl rfl) rfl ?_
    refine Fw.nil ?_
    refine hK3 _ _ (Fw.FC.sub (f' := [(28, _), (0, _), (1, _), (2, _), (3, _)]) (.cons rfl (.cons rfl (.cons rfl (.cons rfl (.cons rfl .nil))))) ?_)
    refine Fw.condT rfl ?_
    refine Fw.seq fun _ hK4 => ?_
    refine Fw.region ?_
    refine Fw.s (Fw.val_move rfl) rfl ?_
    refine Fw.s (Fw.val_assign rfl) rfl ?_
    refine Fw.s (Fw.val_assign rfl) rfl ?_
    refine Fw.nil ?_
    refine hK4 _ _ ?_
    refine Fw.ret ?_
    refine Fw.X_ret ?_
    refine Fw.ret_ [.tmp 8, .tmp 9] [_, _] Try.results36 (.tmp rfl (.tmp rfl .nil)) ?_
    have hE : Us.moveE l id n e = 1 := by unfold Us.moveE; rw [hth]; simp
    have hL : Us.moveL l id n e = l := by unfold Us.moveL; rw [hE]; rfl
    rw [hE, hL]
    exact ⟨_, _, rfl, h.low HB, HB⟩

set_option maxRecDepth 100000 in
set_option maxHeartbeats 1000000 in
theorem rstand_any (w : World) (A : Option Addr) (l : List Us.U) (c : Nat) (id e : Int) (h : Fw.RdT w 40 A (l.flatMap Us.U.cells)) (hw : Us.Wf l) (hl : l.length ≤ 256) : Calls Try.prog 34 #[.slice A l.length c, .int .i64 id, .int .i64 e] w fun e_ w' => ∃ A' c', e_ = .returned (.tuple #[.slice A' (Us.standL l id e).length c', .int .i64 (Us.standE l id e)]) ∧ Fw.RdT w' 40 A' ((Us.standL l id e).flatMap Us.U.cells) ∧ Below w.heap.size w w' := by
  cases hth : Us.there l id with
  | true =>
    obtain ⟨i, hid, hi⟩ : ∃ i : Nat, id = i ∧ i < l.length := by have := of_decide_eq_true hth; exact ⟨(id).toNat, by omega, by omega⟩
    have hg := Us.get_at hid hi
    have hwi := hw i hi
    obtain ⟨ad, b, o, hA, hadd, HE⟩ := Fw.rdAt Us.U.len (by decide) h.1 i hi
    refine Fw.calls Try.func34 rfl Try.ntmps34 rfl ?_
    have HB := Below.refl (w.heap.size) w
    refine Fw.seq fun _ hK1 => ?_
    refine Fw.region ?_
    refine Fw.s (Fw.val_assign rfl) rfl ?_
    refine Fw.s (Fw.val_assign rfl) rfl ?_
    refine Fw.nil ?_
    refine hK1 _ _ ?_
    refine Fw.seq fun _ hK2 => ?_
    refine Fw.seq fun _ hK3 => ?_
    refine Fw.region ?_
    refine Fw.s (Fw.val_move rfl) rfl ?_
    refine Fw.s (Fw.val_move rfl) rfl ?_
    refine Fw.call cf49 rfl rfl (rthere_any _ A l c _) ?_
    rintro e_ _ ⟨rfl, rfl⟩
    refine ⟨_, rfl, ?_⟩
    refine Fw.bT (by exact hth) ?_
    refine Fw.s (Fw.val_not rfl) rfl ?_
    refine Fw.s (Fw.val_move rfl) rfl ?_
    refine Fw.gT (d := 13) rfl rfl ?_
    refine Fw.s (Fw.val_move rfl) rfl ?_
    refine Fw.gT (d := 13) rfl rfl ?_
    refine Fw.s (Fw.val_move rfl) rfl ?_
    refine Fw.gT (d := 13) rfl rfl ?_
    refine Fw.s (Fw.val_indexR Try.underlying28 sz40 rfl hA rfl hid hi hadd) rfl ?_
    refine Fw.gT (d := 13) rfl rfl ?_
    refine Fw.ldA ag40 rfl ((HE.low HB)) rfl rfl ?_
    refine Fw.gT (d := 13) rfl rfl ?_
    refine Fw.s (Fw.val_move rfl) rfl ?_
    refine Fw.gT (d := 13) rfl rfl ?_
    refine Fw.call cf52 rfl rfl (rright_any l[i] e _) ?_
    rintro e_ w1 ⟨rfl, hb⟩
    refine ⟨_, rfl, ?_⟩
    replace HB := HB.trans (hb.mono HB.size)
    clear hb
    refine Fw.b2 ?_ ?_
    · rintro c1
      refine Fw.gT (d := 13) rfl rfl ?_
      refine Fw.s (Fw.val_not rfl) rfl ?_
      refine Fw.s (Fw.val_pickF rfl rfl) rfl ?_
      refine Fw.nil ?_
      refine hK3 _ _ (Fw.FC.sub (f' := [(21, _), (0, _), (1, _), (2, _)]) (.cons rfl (.cons rfl (.cons rfl (.cons rfl .nil)))) ?_)
      refine Fw.condF rfl ?_
      refine Fw.skip ?_
      refine hK2 _ _ ?_
      refine Fw.seq fun _ hK5 => ?_
      refine Fw.region ?_
      refine Fw.s (Fw.val_move rfl) rfl ?_
      refine Fw.s (Fw.val_move rfl) rfl ?_
      refine Fw.s (Fw.val_indexR Try.underlying28 sz40 rfl hA rfl hid hi hadd) rfl ?_
      refine Fw.ldA ag40 rfl ((HE.low HB)) rfl rfl ?_
      refine Fw.alloc ze40 rfl ?_
      intro w2 gX8 egX8 HX8 hb
      have lgX8 : w.heap.size ≤ gX8 := by have := HB.size; omega
      replace HB := HB.trans (hb.mono HB.size)
      clear hb
      clear egX8
      refine Fw.storeW sz40 rfl rfl HX8 rfl rfl (by exact Fw.oneCells rfl) ?_
      intro w3 N_ hc
      replace HB := HB.trans (hc.below (B := w.heap.size) (fun k e => by omega) HB.size)
      clear hc
      clear HX8
      have HX8 := N_
      clear N_
      refine Fw.nil ?_
      refine hK5 _ _ ?_
      refine Fw.seq fun _ hK7 => ?_
      refine Fw.seq fun _ hK8 => ?_
      refine Fw.region ?_
      refine Fw.s (Fw.val_fieldAddr fl40_0 rfl rfl) rfl ?_
      refine Fw.s (Fw.val_fieldAddr fl32_3 rfl rfl) rfl ?_
      refine Fw.ld sc3 rfl (HX8.cell 3) rfl ?_
      refine Fw.s2 (Fw.val_bin rfl rfl Fw.b_neq) rfl ?_ ?_
      · rintro c6
        refine Fw.s (Fw.val_move rfl) rfl ?_
        refine Fw.gT (d := 31) rfl rfl ?_
        refine Fw.s (Fw.val_fieldAddr fl40_0 rfl rfl) rfl ?_
        refine Fw.gT (d := 31) rfl rfl ?_
        refine Fw.s (Fw.val_fieldAddr fl32_3 rfl rfl) rfl ?_
        refine Fw.gT (d := 31) rfl rfl ?_
        refine Fw.ld sc3 rfl (HX8.cell 3) rfl ?_
        refine Fw.gT (d := 31) rfl rfl ?_
        refine Fw.s2 (Fw.val_bin rfl rfl Fw.b_neq) rfl ?_ ?_
        · rintro c7
          refine Fw.s (Fw.val_pickT rfl rfl) rfl ?_
          refine Fw.nil ?_
          refine hK8 _ _ (Fw.FC.sub (f' := [(36, _), (8, _), (0, _), (2, _)]) (.cons rfl (.cons rfl (.cons rfl (.cons rfl .nil)))) ?_)
          refine Fw.condT rfl ?_
          refine Fw.region ?_
          refine Fw.s (Fw.val_fieldAddr fl40_0 rfl rfl) rfl ?_
          refine Fw.s (Fw.val_fieldAddr fl32_3 rfl rfl) rfl ?_
          refine Fw.store sz3 rfl rfl HX8 rfl rfl rfl ?_
          intro w4 N_ hc
          replace HB := HB.trans (hc.below (B := w.heap.size) (fun k e => by omega) HB.size)
          clear hc
          clear HX8
          have HX8 := N_
          clear N_
          refine Fw.nil ?_
          refine hK7 _ _ ?_
          refine Fw.seq fun _ hK11 => ?_
          refine Fw.region ?_
          refine Fw.s (Fw.val_fieldAddr fl40_0 rfl rfl) rfl ?_
          refine Fw.s (Fw.val_fieldAddr fl32_7 rfl rfl) rfl ?_
          refine Fw.store sz2 rfl rfl HX8 rfl rfl rfl ?_
          intro w5 N_ hc
          replace HB := HB.trans (hc.below (B := w.heap.size) (fun k e => by omega) HB.size)
          clear hc
          clear HX8
          have HX8 := N_
          clear N_
          refine Fw.nil ?_
          refine hK11 _ _ ?_
          refine Fw.seq fun _ hK12 => ?_
          refine Fw.region ?_
          refine Fw.s (Fw.val_move rfl) rfl ?_
          refine Fw.ldA ag40 rfl (Fw.rdBlk HX8) rfl rfl ?_
          refine Fw.s (Fw.val_move rfl) rfl ?_
          refine Fw.s (Fw.val_build (ps := [(1, _), (2, _)]) rfl (bu36_1_2 _ _)) rfl ?_
          refine Fw.call cf53 rfl rfl (rgiven_any { l[i] with state := 2, inc := 0 } 0 e 2 0 0 _) ?_
          rintro e_ w6 ⟨rfl, hb⟩
          refine ⟨_, rfl, ?_⟩
          replace HX8 := HX8.low hb
          replace HB := HB.trans (hb.mono HB.size)
          clear hb
          refine Fw.call cf54 rfl rfl (rwith_any _ A l c (Us.issue { l[i] with state := 2, inc := 0 } e 2 0 0) i _ rfl (h.low HB) (by exact hwi) hi hl) ?_
          rintro e_ w7 ⟨A1, cc1, rfl, HW, hb⟩
          refine ⟨_, rfl, ?_⟩
          replace HX8 := HX8.low hb
          replace HB := HB.trans (hb.mono HB.size)
          clear hb
          refine Fw.s (Fw.val_assign rfl) rfl ?_
          refine Fw.s (Fw.val_assign rfl) rfl ?_
          refine Fw.nil ?_
          refine hK12 _ _ (Fw.FC.sub (f' := [(7, _), (6, _)]) (.cons rfl (.cons rfl .nil)) ?_)
          refine Fw.ret ?_
          refine Fw.ret_ [.tmp 6, .tmp 7] [_, _] Try.results34 (.tmp rfl (.tmp rfl .nil)) ?_
          have hE : Us.standE l id e = 0 := by unfold Us.standE; rw [hth, hg]; simp [c1]
          have hL : Us.standL l id e = l.set i (Us.issue { l[i] with state := 2, inc := 0 } e 2 0 0) := by
            unfold Us.standL; rw [if_pos hE, hg]; unfold Us.put; rw [hid, Int.toNat_natCast]; unfold Us.standU
            congr 3
            exact if_pos ⟨c6, c7⟩
          rw [hE, hL]
          exact ⟨_, _, by rw [List.length_set]; rfl, HW, HB⟩
        · rintro c7
          refine Fw.s (Fw.val_pickT rfl rfl) rfl ?_
          refine Fw.nil ?_
          refine hK8 _ _ (Fw.FC.sub (f' := [(36, _), (8, _), (0, _), (2, _)]) (.cons rfl (.cons rfl (.cons rfl (.cons rfl .nil)))) ?_)
          refine Fw.condF rfl ?_
          refine Fw.skip ?_
          refine hK7 _ _ ?_
          refine Fw.seq fun _ hK13 => ?_
          refine Fw.region ?_
          refine Fw.s (Fw.val_fieldAddr fl40_0 rfl rfl) rfl ?_
          refine Fw.s (Fw.val_fieldAddr fl32_7 rfl rfl) rfl ?_
          refine Fw.store sz2 rfl rfl HX8 rfl rfl rfl ?_
          intro w8 N_ hc
          replace HB := HB.trans (hc.below (B := w.heap.size) (fun k e => by omega) HB.size)
          clear hc
          clear HX8
          have HX8 := N_
          clear N_
          refine Fw.nil ?_
          refine hK13 _ _ ?_
          refine Fw.seq fun _ hK14 => ?_
          refine Fw.region ?_
          refine Fw.s (Fw.val_move rfl) rfl ?_
          refine Fw.ldA ag40 rfl (Fw.rdBlk HX8) rfl rfl ?_
          refine Fw.s (Fw.val_move rfl) rfl ?_
          refine Fw.s (Fw.val_build (ps := [(1, _), (2, _)]) rfl (bu36_1_2 _ _)) rfl ?_
          refine Fw.call cf53 rfl rfl (rgiven_any { l[i] with state := l[i].state, inc := 0 } 0 e 2 0 0 _) ?_
          rintro e_ w9 ⟨rfl, hb⟩
          refine ⟨_, rfl, ?_⟩
          replace HX8 := HX8.low hb
          replace HB := HB.trans (hb.mono HB.size)
          clear hb
          refine Fw.call cf54 rfl rfl (rwith_any _ A l c (Us.issue { l[i] with state := l[i].state, inc := 0 } e 2 0 0) i _ rfl (h.low HB) (by exact hwi) hi hl) ?_
          rintro e_ w10 ⟨A1, cc1, rfl, HW, hb⟩
          refine ⟨_, rfl, ?_⟩
          replace HX8 := HX8.low hb
          replace HB := HB.trans (hb.mono HB.size)
          clear hb
          refine Fw.s (Fw.val_assign rfl) rfl ?_
          refine Fw.s (Fw.val_assign rfl) rfl ?_
          refine Fw.nil ?_
          refine hK14 _ _ (Fw.FC.sub (f' := [(7, _), (6, _)]) (.cons rfl (.cons rfl .nil)) ?_)
          refine Fw.ret ?_
          refine Fw.ret_ [.tmp 6, .tmp 7] [_, _] Try.results34 (.tmp rfl (.tmp rfl .nil)) ?_
          have hE : Us.standE l id e = 0 := by unfold Us.standE; rw [hth, hg]; simp [c1]
          have hL : Us.standL l id e = l.set i (Us.issue { l[i] with state := l[i].state, inc := 0 } e 2 0 0) := by
            unfold Us.standL; rw [if_pos hE, hg]; unfold Us.put; rw [hid, Int.toNat_natCast]; unfold Us.standU
            congr 3
            exact if_neg (fun hh => by first | exact c7 hh.2 | exact c6 hh.1)
          rw [hE, hL]
          exact ⟨_, _, by rw [List.length_set]; rfl, HW, HB⟩
      · rintro c6
        refine Fw.s (Fw.val_move rfl) rfl ?_
        refine Fw.gF (d := 31) rfl rfl rfl rfl ?_
        refine Fw.gF (d := 31) rfl rfl rfl rfl ?_
        refine Fw.gF (d := 31) rfl rfl rfl rfl ?_
        refine Fw.gF (d := 31) rfl rfl rfl rfl ?_
        refine Fw.s (Fw.val_pickF rfl rfl) rfl ?_
        refine Fw.nil ?_
        refine hK8 _ _ (Fw.FC.sub (f' := [(36, _), (8, _), (0, _), (2, _)]) (.cons rfl (.cons rfl (.cons rfl (.cons rfl .nil)))) ?_)
        refine Fw.condF rfl ?_
        refine Fw.skip ?_
        refine hK7 _ _ ?_
        refine Fw.seq fun _ hK15 => ?_
        refine Fw.region ?_
        refine Fw.s (Fw.val_fieldAddr fl40_0 rfl rfl) rfl ?_
        refine Fw.s (Fw.val_fieldAddr fl32_7 rfl rfl) rfl ?_
        refine Fw.store sz2 rfl rfl HX8 rfl rfl rfl ?_
        intro w11 N_ hc
        replace HB := HB.trans (hc.below (B := w.heap.size) (fun k e => by omega) HB.size)
        clear hc
        clear HX8
        have HX8 := N_
        clear N_
        refine Fw.nil ?_
        refine hK15 _ _ ?_
        refine Fw.seq fun _ hK16 => ?_
        refine Fw.region ?_
        refine Fw.s (Fw.val_move rfl) rfl ?_
        refine Fw.ldA ag40 rfl (Fw.rdBlk HX8) rfl rfl ?_
        refine Fw.s (Fw.val_move rfl) rfl ?_
        refine Fw.s (Fw.val_build (ps := [(1, _), (2, _)]) rfl (bu36_1_2 _ _)) rfl ?_
        refine Fw.call cf53 rfl rfl (rgiven_any { l[i] with state := l[i].state, inc := 0 } 0 e 2 0 0 _) ?_
        rintro e_ w12 ⟨rfl, hb⟩
        refine ⟨_, rfl, ?_⟩
        replace HX8 := HX8.low hb
        replace HB := HB.trans (hb.mono HB.size)
        clear hb
        refine Fw.call cf54 rfl rfl (rwith_any _ A l c (Us.issue { l[i] with state := l[i].state, inc := 0 } e 2 0 0) i _ rfl (h.low HB) (by exact hwi) hi hl) ?_
        rintro e_ w13 ⟨A1, cc1, rfl, HW, hb⟩
        refine ⟨_, rfl, ?_⟩
        replace HX8 := HX8.low hb
        replace HB := HB.trans (hb.mono HB.size)
        clear hb
        refine Fw.s (Fw.val_assign rfl) rfl ?_
        refine Fw.s (Fw.val_assign rfl) rfl ?_
        refine Fw.nil ?_
        refine hK16 _ _ (Fw.FC.sub (f' := [(7, _), (6, _)]) (.cons rfl (.cons rfl .nil)) ?_)
        refine Fw.ret ?_
        refine Fw.ret_ [.tmp 6, .tmp 7] [_, _] Try.results34 (.tmp rfl (.tmp rfl .nil)) ?_
        have hE : Us.standE l id e = 0 := by unfold Us.standE; rw [hth, hg]; simp [c1]
        have hL : Us.standL l id e = l.set i (Us.issue { l[i] with state := l[i].state, inc := 0 } e 2 0 0) := by
          unfold Us.standL; rw [if_pos hE, hg]; unfold Us.put; rw [hid, Int.toNat_natCast]; unfold Us.standU
          congr 3
          exact if_neg (fun hh => by first | exact c7 hh.2 | exact c6 hh.1)
        rw [hE, hL]
        exact ⟨_, _, by rw [List.length_set]; rfl, HW, HB⟩
    · rintro c1
      refine Fw.gT (d := 13) rfl rfl ?_
      refine Fw.s (Fw.val_not rfl) rfl ?_
      refine Fw.s (Fw.val_pickF rfl rfl) rfl ?_
      refine Fw.nil ?_
      refine hK3 _ _ (Fw.FC.sub (f' := [(21, _), (0, _), (1, _), (2, _)]) (.cons rfl (.cons rfl (.cons rfl (.cons rfl .nil)))) ?_)
      refine Fw.condT rfl ?_
      refine Fw.seq fun _ hK17 => ?_
      refine Fw.region ?_
      refine Fw.s (Fw.val_move rfl) rfl ?_
      refine Fw.s (Fw.val_assign rfl) rfl ?_
      refine Fw.s (Fw.val_assign rfl) rfl ?_
      refine Fw.nil ?_
      refine hK17 _ _ ?_
      refine Fw.ret ?_
      refine Fw.X_ret ?_
      refine Fw.ret_ [.tmp 6, .tmp 7] [_, _] Try.results34 (.tmp rfl (.tmp rfl .nil)) ?_
      have hf := c1
      have hE : Us.standE l id e = 1 := by unfold Us.standE; rw [hth, hg]; simp [hf]
      have hL : Us.standL l id e = l := by unfold Us.standL; rw [hE]; rfl
      rw [hE, hL]
      exact ⟨_, _, rfl, h.low HB, HB⟩
  | false =>
    refine Fw.calls Try.func34 rfl Try.ntmps34 rfl ?_
    have HB := Below.refl (w.heap.size) w
    refine Fw.seq fun _ hK1 => ?_
    refine Fw.region ?_
    refine Fw.s (Fw.val_assign rfl) rfl ?_
    refine Fw.s (Fw.val_assign rfl) rfl ?_
    refine Fw.nil ?_
    refine hK1 _ _ ?_
    refine Fw.seq fun _ hK2 => ?_
    refine Fw.seq fun _ hK3 => ?_
    refine Fw.region ?_
    refine Fw.s (Fw.val_move rfl) rfl ?_
    refine Fw.s (Fw.val_move rfl) rfl ?_
    refine Fw.call cf49 rfl rfl (rthere_any _ A l c _) ?_
    rintro e_ _ ⟨rfl, rfl⟩
    refine ⟨_, rfl, ?_⟩
    refine Fw.bF (by exact hth) ?_
    refine Fw.s (Fw.val_not rfl) rfl ?_
    refine Fw.s (Fw.val_move rfl) rfl ?_
    refine Fw.gF (d := 13) rfl rfl rfl rfl ?_
    refine Fw.gF (d := 13) rfl rfl rfl rfl ?_
    refine Fw.gF (d := 13) rfl rfl rfl rfl ?_
    refine Fw.gF (d := 13) rfl rfl rfl rfl ?_
    refine Fw.gF (d := 13) rfl rfl rfl rfl ?_
    refine Fw.gF (d := 13) rfl rfl rfl rfl ?_
    refine Fw.gF (d := 13) rfl rfl rfl rfl ?_
    refine Fw.s (Fw.val_pickT rfl rfl) rfl ?_
    refine Fw.nil ?_
    refine hK3 _ _ (Fw.FC.sub (f' := [(21, _), (0, _), (1, _), (2, _)]) (.cons rfl (.cons rfl (.cons rfl (.cons rfl .nil)))) ?_)
    refine Fw.condT rfl ?_
    refine Fw.seq fun _ hK4 => ?_
    refine Fw.region ?_
    refine Fw.s (Fw.val_move rfl) rfl ?_
    refine Fw.s (Fw.val_assign rfl) rfl ?_
    refine Fw.s (Fw.val_assign rfl) rfl ?_
    refine Fw.nil ?_
    refine hK4 _ _ ?_
    refine Fw.ret ?_
    refine Fw.X_ret ?_
    refine Fw.ret_ [.tmp 6, .tmp 7] [_, _] Try.results34 (.tmp rfl (.tmp rfl .nil)) ?_
    have hE : Us.standE l id e = 1 := by unfold Us.standE; rw [hth]; simp
    have hL : Us.standL l id e = l := by unfold Us.standL; rw [hE]; rfl
    rw [hE, hL]
    exact ⟨_, _, rfl, h.low HB, HB⟩

set_option maxRecDepth 100000 in
set_option maxHeartbeats 1000000 in
theorem rword_any (w : World) (A : Option Addr) (l : List Us.U) (c : Nat) (s : Us.S) (now e : Int) (h : Fw.RdT w 40 A (l.flatMap Us.U.cells)) (hw : Us.Wf l) (hl : l.length ≤ 256) : Calls Try.prog 32 #[.slice A l.length c, .agg (Us.S.cells s).toArray, .int .i64 now, .int .i64 e] w fun e_ w' => ∃ A' c', e_ = .returned (.tuple #[.slice A' (Us.repL l s now e).length c', .bool (Us.repGone l s now e), .int .i64 (Us.repE l s now e)]) ∧ Fw.RdT w' 40 A' ((Us.repL l s now e).flatMap Us.U.cells) ∧ Below w.heap.size w w' := by
  cases hth : Us.there l s.u with
  | true =>
    obtain ⟨i, hid, hi⟩ : ∃ i : Nat, s.u = i ∧ i < l.length := by have := of_decide_eq_true hth; exact ⟨(s.u).toNat, by omega, by omega⟩
    have hg := Us.get_at hid hi
    have hwi := hw i hi
    obtain ⟨ad, b, o, hA, hadd, HE⟩ := Fw.rdAt Us.U.len (by decide) h.1 i hi
    refine Fw.calls Try.func32 rfl Try.ntmps32 rfl ?_
    have HB := Below.refl (w.heap.size) w
    refine Fw.seq fun _ hK1 => ?_
    refine Fw.region ?_
    refine Fw.box rfl rfl ?_
    intro w1 gSb egSb HSb hb
    have lgSb : w.heap.size ≤ gSb := by have := HB.size; omega
    replace HB := HB.trans (hb.mono HB.size)
    clear hb
    clear egSb
    refine Fw.s (Fw.val_assign rfl) rfl ?_
    refine Fw.s (Fw.val_assign rfl) rfl ?_
    refine Fw.s (Fw.val_assign rfl) rfl ?_
    refine Fw.nil ?_
    refine hK1 _ _ ?_
    refine Fw.seq fun _ hK2 => ?_
    refine Fw.seq fun _ hK3 => ?_
    refine Fw.regionQ (by kernel_rfl) (by kernel_rfl) ?_
    refine Fw.q (Fw.val_move rfl) rfl ?_
    refine Fw.q (Fw.val_fieldAddr fl45_0 rfl rfl) rfl ?_
    refine Fw.ldQ sc3 rfl (HSb.cell 0) rfl ?_
    refine Fw.callQ cf49 rfl rfl (fun w_ hb_ => rthere_any _ A l c _) (fun _ _ _ h => ⟨h.1, h.2 ▸ Below.refl _ _⟩) ?_
    refine Fw.bTQ (by exact hth) ?_
    refine Fw.q (Fw.val_not rfl) rfl ?_
    refine Fw.q (Fw.val_move rfl) rfl ?_
    refine Fw.gTQ (d := 18) rfl rfl ?_
    refine Fw.q (Fw.val_fieldAddr fl45_1 rfl rfl) rfl ?_
    refine Fw.gTQ (d := 18) rfl rfl ?_
    refine Fw.ldQ sc2 rfl (HSb.cell 1) rfl ?_
    refine Fw.gTQ (d := 18) rfl rfl ?_
    refine Fw.q2 (Fw.val_bin rfl rfl Fw.b_lss) rfl ?_ ?_
    · rintro k1
      refine Fw.q (Fw.val_pickF rfl rfl) rfl ?_
      refine Fw.q (Fw.val_move rfl) rfl ?_
      refine Fw.gFQ (d := 23) rfl rfl rfl rfl ?_
      refine Fw.gFQ (d := 23) rfl rfl rfl rfl ?_
      refine Fw.gFQ (d := 23) rfl rfl rfl rfl ?_
      refine Fw.gFQ (d := 23) rfl rfl rfl rfl ?_
      refine Fw.q (Fw.val_pickT rfl rfl) rfl ?_
      refine Fw.q (Fw.val_move rfl) rfl ?_
      refine Fw.gFQ (d := 29) rfl rfl rfl rfl ?_
      refine Fw.gFQ (d := 29) rfl rfl rfl rfl ?_
      refine Fw.gFQ (d := 29) rfl rfl rfl rfl ?_
      refine Fw.gFQ (d := 29) rfl rfl rfl rfl ?_
      refine Fw.q (Fw.val_pickT rfl rfl) rfl ?_
      refine Fw.q (Fw.val_move rfl) rfl ?_
      refine Fw.gFQ (d := 35) rfl rfl rfl rfl ?_
      refine Fw.gFQ (d := 35) rfl rfl rfl rfl ?_
      refine Fw.gFQ (d := 35) rfl rfl rfl rfl ?_
      refine Fw.q (Fw.val_pickT rfl rfl) rfl ?_
      refine Fw.q (Fw.val_move rfl) rfl ?_
      refine Fw.gFQ (d := 40) rfl rfl rfl rfl ?_
      refine Fw.gFQ (d := 40) rfl rfl rfl rfl ?_
      refine Fw.gFQ (d := 40) rfl rfl rfl rfl ?_
      refine Fw.gFQ (d := 40) rfl rfl rfl rfl ?_
      refine Fw.gFQ (d := 40) rfl rfl rfl rfl ?_
      refine Fw.gFQ (d := 40) rfl rfl rfl rfl ?_
      refine Fw.gFQ (d := 40) rfl rfl rfl rfl ?_
      refine Fw.gFQ (d := 40) rfl rfl rfl rfl ?_
      refine Fw.gFQ (d := 40) rfl rfl rfl rfl ?_
      refine Fw.gFQ (d := 40) rfl rfl rfl rfl ?_
      refine Fw.q (Fw.val_pickT rfl rfl) rfl ?_
      refine Fw.q (Fw.val_move rfl) rfl ?_
      refine Fw.gFQ (d := 52) rfl rfl rfl rfl ?_
      refine Fw.gFQ (d := 52) rfl rfl rfl rfl ?_
      refine Fw.q (Fw.val_pickT rfl rfl) rfl ?_
      refine Fw.q (Fw.val_move rfl) rfl ?_
      refine Fw.gFQ (d := 56) rfl rfl rfl rfl ?_
      refine Fw.gFQ (d := 56) rfl rfl rfl rfl ?_
      refine Fw.q (Fw.val_pickT rfl rfl) rfl ?_
      refine Fw.q (Fw.val_move rfl) rfl ?_
      refine Fw.gFQ (d := 60) rfl rfl rfl rfl ?_
      refine Fw.gFQ (d := 60) rfl rfl rfl rfl ?_
      refine Fw.gFQ (d := 60) rfl rfl rfl rfl ?_
      refine Fw.gFQ (d := 60) rfl rfl rfl rfl ?_
      refine Fw.gFQ (d := 60) rfl rfl rfl rfl ?_
      refine Fw.gFQ (d := 60) rfl rfl rfl rfl ?_
      refine Fw.gFQ (d := 60) rfl rfl rfl rfl ?_
      refine Fw.gFQ (d := 60) rfl rfl rfl rfl ?_
      refine Fw.q (Fw.val_pickT rfl rfl) rfl ?_
      refine Fw.nilQ ?_
      intro w2 hb
      replace HSb := HSb.low hb
      replace HB := HB.trans (hb.mono HB.size)
      clear hb
      refine hK3 _ _ (Fw.FC.sub (f' := [(69, _), (5, _), (0, _), (2, _), (3, _)]) (.cons rfl (.cons rfl (.cons rfl (.cons rfl (.cons rfl .nil))))) ?_)
      refine Fw.condT rfl ?_
      refine Fw.seq fun _ hK5 => ?_
      refine Fw.region ?_
      refine Fw.s (Fw.val_move rfl) rfl ?_
      refine Fw.s (Fw.val_assign rfl) rfl ?_
      refine Fw.s (Fw.val_assign rfl) rfl ?_
      refine Fw.s (Fw.val_assign rfl) rfl ?_
      refine Fw.nil ?_
      refine hK5 _ _ ?_
      refine Fw.ret ?_
      refine Fw.X_ret ?_
      refine Fw.ret_ [.tmp 8, .tmp 9, .tmp 10] [_, _, _] Try.results32 (.tmp rfl (.tmp rfl (.tmp rfl .nil))) ?_
      have hf : Us.repB l[i] s = false := by unfold Us.repB; rw [show decide (1 ≤ s.q) = false from decide_eq_false (by omega)]; simp
      have hE : Us.repE l s now e = 1 := by unfold Us.repE; rw [hth, hg]; simp [hf]
      have hL : Us.repL l s now e = l := by unfold Us.repL; rw [hE]; rfl
      have hG : Us.repGone l s now e = false := by unfold Us.repGone; rw [hE]; rfl
      rw [hE, hL, hG]
      exact ⟨_, _, rfl, h.low HB, HB⟩
    · rintro k1
      refine Fw.q (Fw.val_pickF rfl rfl) rfl ?_
      refine Fw.q (Fw.val_move rfl) rfl ?_
      refine Fw.gTQ (d := 23) rfl rfl ?_
      refine Fw.q (Fw.val_fieldAddr fl45_3 rfl rfl) rfl ?_
      refine Fw.gTQ (d := 23) rfl rfl ?_
      refine Fw.ldQ sc3 rfl (HSb.cell 3) rfl ?_
      refine Fw.gTQ (d := 23) rfl rfl ?_
      refine Fw.callQ cf50 rfl rfl (fun w_ hb_ => rnode_any _ _) (fun _ _ _ h => ⟨h.1, h.2 ▸ Below.refl _ _⟩) ?_
      refine Fw.b2Q ?_ ?_
      · rintro k2
        refine Fw.gTQ (d := 23) rfl rfl ?_
        refine Fw.q (Fw.val_not rfl) rfl ?_
        refine Fw.q (Fw.val_pickF rfl rfl) rfl ?_
        refine Fw.q (Fw.val_move rfl) rfl ?_
        refine Fw.gTQ (d := 29) rfl rfl ?_
        refine Fw.q (Fw.val_fieldAddr fl45_2 rfl rfl) rfl ?_
        refine Fw.gTQ (d := 29) rfl rfl ?_
        refine Fw.ldQ sc3 rfl (HSb.cell 2) rfl ?_
        refine Fw.gTQ (d := 29) rfl rfl ?_
        refine Fw.callQ cf51 rfl rfl (fun w_ hb_ => rsays_any _ _) (fun _ _ _ h => ⟨h.1, h.2 ▸ Below.refl _ _⟩) ?_
        refine Fw.b2Q ?_ ?_
        · rintro k3
          refine Fw.gTQ (d := 29) rfl rfl ?_
          refine Fw.q (Fw.val_not rfl) rfl ?_
          refine Fw.q (Fw.val_pickF rfl rfl) rfl ?_
          refine Fw.q (Fw.val_move rfl) rfl ?_
          refine Fw.gTQ (d := 35) rfl rfl ?_
          refine Fw.q (Fw.val_fieldAddr fl45_4 rfl rfl) rfl ?_
          refine Fw.gTQ (d := 35) rfl rfl ?_
          refine Fw.ldQ sc2 rfl (HSb.cell 4) rfl ?_
          refine Fw.gTQ (d := 35) rfl rfl ?_
          refine Fw.q2 (Fw.val_bin rfl rfl Fw.b_lss) rfl ?_ ?_
          · rintro k4
            refine Fw.q (Fw.val_pickF rfl rfl) rfl ?_
            refine Fw.q (Fw.val_move rfl) rfl ?_
            refine Fw.gFQ (d := 40) rfl rfl rfl rfl ?_
            refine Fw.gFQ (d := 40) rfl rfl rfl rfl ?_
            refine Fw.gFQ (d := 40) rfl rfl rfl rfl ?_
            refine Fw.gFQ (d := 40) rfl rfl rfl rfl ?_
            refine Fw.gFQ (d := 40) rfl rfl rfl rfl ?_
            refine Fw.gFQ (d := 40) rfl rfl rfl rfl ?_
            refine Fw.gFQ (d := 40) rfl rfl rfl rfl ?_
            refine Fw.gFQ (d := 40) rfl rfl rfl rfl ?_
            refine Fw.gFQ (d := 40) rfl rfl rfl rfl ?_
            refine Fw.gFQ (d := 40) rfl rfl rfl rfl ?_
            refine Fw.q (Fw.val_pickT rfl rfl) rfl ?_
            refine Fw.q (Fw.val_move rfl) rfl ?_
            refine Fw.gFQ (d := 52) rfl rfl rfl rfl ?_
            refine Fw.gFQ (d := 52) rfl rfl rfl rfl ?_
            refine Fw.q (Fw.val_pickT rfl rfl) rfl ?_
            refine Fw.q (Fw.val_move rfl) rfl ?_
            refine Fw.gFQ (d := 56) rfl rfl rfl rfl ?_
            refine Fw.gFQ (d := 56) rfl rfl rfl rfl ?_
            refine Fw.q (Fw.val_pickT rfl rfl) rfl ?_
            refine Fw.q (Fw.val_move rfl) rfl ?_
            refine Fw.gFQ (d := 60) rfl rfl rfl rfl ?_
            refine Fw.gFQ (d := 60) rfl rfl rfl rfl ?_
            refine Fw.gFQ (d := 60) rfl rfl rfl rfl ?_
            refine Fw.gFQ (d := 60) rfl rfl rfl rfl ?_
            refine Fw.gFQ (d := 60) rfl rfl rfl rfl ?_
            refine Fw.gFQ (d := 60) rfl rfl rfl rfl ?_
            refine Fw.gFQ (d := 60) rfl rfl rfl rfl ?_
            refine Fw.gFQ (d := 60) rfl rfl rfl rfl ?_
            refine Fw.q (Fw.val_pickT rfl rfl) rfl ?_
            refine Fw.nilQ ?_
            intro w3 hb
            replace HSb := HSb.low hb
            replace HB := HB.trans (hb.mono HB.size)
            clear hb
            refine hK3 _ _ (Fw.FC.sub (f' := [(69, _), (5, _), (0, _), (2, _), (3, _)]) (.cons rfl (.cons rfl (.cons rfl (.cons rfl (.cons rfl .nil))))) ?_)
            refine Fw.condT rfl ?_
            refine Fw.seq fun _ hK7 => ?_
            refine Fw.region ?_
            refine Fw.s (Fw.val_move rfl) rfl ?_
            refine Fw.s (Fw.val_assign rfl) rfl ?_
            refine Fw.s (Fw.val_assign rfl) rfl ?_
            refine Fw.s (Fw.val_assign rfl) rfl ?_
            refine Fw.nil ?_
            refine hK7 _ _ ?_
            refine Fw.ret ?_
            refine Fw.X_ret ?_
            refine Fw.ret_ [.tmp 8, .tmp 9, .tmp 10] [_, _, _] Try.results32 (.tmp rfl (.tmp rfl (.tmp rfl .nil))) ?_
            have hf : Us.repB l[i] s = false := by unfold Us.repB; rw [show decide (0 ≤ s.e ∧ s.e ≤ l[i].ep) = false from decide_eq_false (by omega)]; simp
            have hE : Us.repE l s now e = 1 := by unfold Us.repE; rw [hth, hg]; simp [hf]
            have hL : Us.repL l s now e = l := by unfold Us.repL; rw [hE]; rfl
            have hG : Us.repGone l s now e = false := by unfold Us.repGone; rw [hE]; rfl
            rw [hE, hL, hG]
            exact ⟨_, _, rfl, h.low HB, HB⟩
          · rintro k4
            refine Fw.q (Fw.val_pickF rfl rfl) rfl ?_
            refine Fw.q (Fw.val_move rfl) rfl ?_
            refine Fw.gTQ (d := 40) rfl rfl ?_
            refine Fw.q (Fw.val_fieldAddr fl45_4 rfl rfl) rfl ?_
            refine Fw.gTQ (d := 40) rfl rfl ?_
            refine Fw.ldQ sc2 rfl (HSb.cell 4) rfl ?_
            refine Fw.gTQ (d := 40) rfl rfl ?_
            refine Fw.q (Fw.val_move rfl) rfl ?_
            refine Fw.gTQ (d := 40) rfl rfl ?_
            refine Fw.q (Fw.val_fieldAddr fl45_0 rfl rfl) rfl ?_
            refine Fw.gTQ (d := 40) rfl rfl ?_
            refine Fw.ldQ sc3 rfl (HSb.cell 0) rfl ?_
            refine Fw.gTQ (d := 40) rfl rfl ?_
            refine Fw.q (Fw.val_indexR Try.underlying28 sz40 rfl hA rfl hid hi hadd) rfl ?_
            refine Fw.gTQ (d := 40) rfl rfl ?_
            refine Fw.q (Fw.val_fieldAddr fl40_0 rfl rfl) rfl ?_
            refine Fw.gTQ (d := 40) rfl rfl ?_
            refine Fw.q (Fw.val_fieldAddr fl32_8 rfl rfl) rfl ?_
            refine Fw.gTQ (d := 40) rfl rfl ?_
            refine Fw.ldQ sc2 rfl (Fw.rdCell (HE.low HB) 8 rfl) rfl ?_
            refine Fw.gTQ (d := 40) rfl rfl ?_
            refine Fw.q2 (Fw.val_bin rfl rfl Fw.b_gtr) rfl ?_ ?_
            · rintro k5
              refine Fw.q (Fw.val_pickF rfl rfl) rfl ?_
              refine Fw.q (Fw.val_move rfl) rfl ?_
              refine Fw.gFQ (d := 52) rfl rfl rfl rfl ?_
              refine Fw.gFQ (d := 52) rfl rfl rfl rfl ?_
              refine Fw.q (Fw.val_pickT rfl rfl) rfl ?_
              refine Fw.q (Fw.val_move rfl) rfl ?_
              refine Fw.gFQ (d := 56) rfl rfl rfl rfl ?_
              refine Fw.gFQ (d := 56) rfl rfl rfl rfl ?_
              refine Fw.q (Fw.val_pickT rfl rfl) rfl ?_
              refine Fw.q (Fw.val_move rfl) rfl ?_
              refine Fw.gFQ (d := 60) rfl rfl rfl rfl ?_
              refine Fw.gFQ (d := 60) rfl rfl rfl rfl ?_
              refine Fw.gFQ (d := 60) rfl rfl rfl rfl ?_
              refine Fw.gFQ (d := 60) rfl rfl rfl rfl ?_
              refine Fw.gFQ (d := 60) rfl rfl rfl rfl ?_
              refine Fw.gFQ (d := 60) rfl rfl rfl rfl ?_
              refine Fw.gFQ (d := 60) rfl rfl rfl rfl ?_
              refine Fw.gFQ (d := 60) rfl rfl rfl rfl ?_
              refine Fw.q (Fw.val_pickT rfl rfl) rfl ?_
              refine Fw.nilQ ?_
              intro w4 hb
              replace HSb := HSb.low hb
              replace HB := HB.trans (hb.mono HB.size)
              clear hb
              refine hK3 _ _ (Fw.FC.sub (f' := [(69, _), (5, _), (0, _), (2, _), (3, _)]) (.cons rfl (.cons rfl (.cons rfl (.cons rfl (.cons rfl .nil))))) ?_)
              refine Fw.condT rfl ?_
              refine Fw.seq fun _ hK10 => ?_
              refine Fw.region ?_
              refine Fw.s (Fw.val_move rfl) rfl ?_
              refine Fw.s (Fw.val_assign rfl) rfl ?_
              refine Fw.s (Fw.val_assign rfl) rfl ?_
              refine Fw.s (Fw.val_assign rfl) rfl ?_
              refine Fw.nil ?_
              refine hK10 _ _ ?_
              refine Fw.ret ?_
              refine Fw.X_ret ?_
              refine Fw.ret_ [.tmp 8, .tmp 9, .tmp 10] [_, _, _] Try.results32 (.tmp rfl (.tmp rfl (.tmp rfl .nil))) ?_
              have hf : Us.repB l[i] s = false := by unfold Us.repB; rw [show decide (0 ≤ s.e ∧ s.e ≤ l[i].ep) = false from decide_eq_false (by omega)]; simp
              have hE : Us.repE l s now e = 1 := by unfold Us.repE; rw [hth, hg]; simp [hf]
              have hL : Us.repL l s now e = l := by unfold Us.repL; rw [hE]; rfl
              have hG : Us.repGone l s now e = false := by unfold Us.repGone; rw [hE]; rfl
              rw [hE, hL, hG]
              exact ⟨_, _, rfl, h.low HB, HB⟩
            · rintro k5
              refine Fw.q (Fw.val_pickF rfl rfl) rfl ?_
              refine Fw.q (Fw.val_move rfl) rfl ?_
              refine Fw.gTQ (d := 52) rfl rfl ?_
              refine Fw.q (Fw.val_move rfl) rfl ?_
              refine Fw.gTQ (d := 52) rfl rfl ?_
              refine Fw.q2 (Fw.val_bin rfl rfl Fw.b_lss) rfl ?_ ?_
              · rintro k6
                refine Fw.q (Fw.val_pickF rfl rfl) rfl ?_
                refine Fw.q (Fw.val_move rfl) rfl ?_
                refine Fw.gFQ (d := 56) rfl rfl rfl rfl ?_
                refine Fw.gFQ (d := 56) rfl rfl rfl rfl ?_
                refine Fw.q (Fw.val_pickT rfl rfl) rfl ?_
                refine Fw.q (Fw.val_move rfl) rfl ?_
                refine Fw.gFQ (d := 60) rfl rfl rfl rfl ?_
                refine Fw.gFQ (d := 60) rfl rfl rfl rfl ?_
                refine Fw.gFQ (d := 60) rfl rfl rfl rfl ?_
                refine Fw.gFQ (d := 60) rfl rfl rfl rfl ?_
                refine Fw.gFQ (d := 60) rfl rfl rfl rfl ?_
                refine Fw.gFQ (d := 60) rfl rfl rfl rfl ?_
                refine Fw.gFQ (d := 60) rfl rfl rfl rfl ?_
                refine Fw.gFQ (d := 60) rfl rfl rfl rfl ?_
                refine Fw.q (Fw.val_pickT rfl rfl) rfl ?_
                refine Fw.nilQ ?_
                intro w5 hb
                replace HSb := HSb.low hb
                replace HB := HB.trans (hb.mono HB.size)
                clear hb
                refine hK3 _ _ (Fw.FC.sub (f' := [(69, _), (5, _), (0, _), (2, _), (3, _)]) (.cons rfl (.cons rfl (.cons rfl (.cons rfl (.cons rfl .nil))))) ?_)
                refine Fw.condT rfl ?_
                refine Fw.seq fun _ hK12 => ?_
                refine Fw.region ?_
                refine Fw.s (Fw.val_move rfl) rfl ?_
                refine Fw.s (Fw.val_assign rfl) rfl ?_
                refine Fw.s (Fw.val_assign rfl) rfl ?_
                refine Fw.s (Fw.val_assign rfl) rfl ?_
                refine Fw.nil ?_
                refine hK12 _ _ ?_
                refine Fw.ret ?_
                refine Fw.X_ret ?_
                refine Fw.ret_ [.tmp 8, .tmp 9, .tmp 10] [_, _, _] Try.results32 (.tmp rfl (.tmp rfl (.tmp rfl .nil))) ?_
                have hf : Us.tickB now = false := decide_eq_false (by omega)
                have hE : Us.repE l s now e = 1 := by unfold Us.repE; rw [hth, hg]; simp [hf]
                have hL : Us.repL l s now e = l := by unfold Us.repL; rw [hE]; rfl
                have hG : Us.repGone l s now e = false := by unfold Us.repGone; rw [hE]; rfl
                rw [hE, hL, hG]
                exact ⟨_, _, rfl, h.low HB, HB⟩
              · rintro k6
                refine Fw.q (Fw.val_pickF rfl rfl) rfl ?_
                refine Fw.q (Fw.val_move rfl) rfl ?_
                refine Fw.gTQ (d := 56) rfl rfl ?_
                refine Fw.q (Fw.val_move rfl) rfl ?_
                refine Fw.gTQ (d := 56) rfl rfl ?_
                refine Fw.q2 (Fw.val_bin rfl rfl Fw.b_gtr) rfl ?_ ?_
                · rintro k7
                  refine Fw.q (Fw.val_pickF rfl rfl) rfl ?_
                  refine Fw.q (Fw.val_move rfl) rfl ?_
                  refine Fw.gFQ (d := 60) rfl rfl rfl rfl ?_
                  refine Fw.gFQ (d := 60) rfl rfl rfl rfl ?_
                  refine Fw.gFQ (d := 60) rfl rfl rfl rfl ?_
                  refine Fw.gFQ (d := 60) rfl rfl rfl rfl ?_
                  refine Fw.gFQ (d := 60) rfl rfl rfl rfl ?_
                  refine Fw.gFQ (d := 60) rfl rfl rfl rfl ?_
                  refine Fw.gFQ (d := 60) rfl rfl rfl rfl ?_
                  refine Fw.gFQ (d := 60) rfl rfl rfl rfl ?_
                  refine Fw.q (Fw.val_pickT rfl rfl) rfl ?_
                  refine Fw.nilQ ?_
                  intro w6 hb
                  replace HSb := HSb.low hb
                  replace HB := HB.trans (hb.mono HB.size)
                  clear hb
                  refine hK3 _ _ (Fw.FC.sub (f' := [(69, _), (5, _), (0, _), (2, _), (3, _)]) (.cons rfl (.cons rfl (.cons rfl (.cons rfl (.cons rfl .nil))))) ?_)
                  refine Fw.condT rfl ?_
                  refine Fw.seq fun _ hK14 => ?_
                  refine Fw.region ?_
                  refine Fw.s (Fw.val_move rfl) rfl ?_
                  refine Fw.s (Fw.val_assign rfl) rfl ?_
                  refine Fw.s (Fw.val_assign rfl) rfl ?_
                  refine Fw.s (Fw.val_assign rfl) rfl ?_
                  refine Fw.nil ?_
                  refine hK14 _ _ ?_
                  refine Fw.ret ?_
                  refine Fw.X_ret ?_
                  refine Fw.ret_ [.tmp 8, .tmp 9, .tmp 10] [_, _, _] Try.results32 (.tmp rfl (.tmp rfl (.tmp rfl .nil))) ?_
                  have hf : Us.tickB now = false := decide_eq_false (by omega)
                  have hE : Us.repE l s now e = 1 := by unfold Us.repE; rw [hth, hg]; simp [hf]
                  have hL : Us.repL l s now e = l := by unfold Us.repL; rw [hE]; rfl
                  have hG : Us.repGone l s now e = false := by unfold Us.repGone; rw [hE]; rfl
                  rw [hE, hL, hG]
                  exact ⟨_, _, rfl, h.low HB, HB⟩
                · rintro k7
                  refine Fw.q (Fw.val_pickF rfl rfl) rfl ?_
                  refine Fw.q (Fw.val_move rfl) rfl ?_
                  refine Fw.gTQ (d := 60) rfl rfl ?_
                  refine Fw.q (Fw.val_move rfl) rfl ?_
                  refine Fw.gTQ (d := 60) rfl rfl ?_
                  refine Fw.q (Fw.val_fieldAddr fl45_0 rfl rfl) rfl ?_
                  refine Fw.gTQ (d := 60) rfl rfl ?_
                  refine Fw.ldQ sc3 rfl (HSb.cell 0) rfl ?_
                  refine Fw.gTQ (d := 60) rfl rfl ?_
                  refine Fw.q (Fw.val_indexR Try.underlying28 sz40 rfl hA rfl hid hi hadd) rfl ?_
                  refine Fw.gTQ (d := 60) rfl rfl ?_
                  refine Fw.ldAQ ag40 rfl ((HE.low HB)) rfl rfl ?_
                  refine Fw.gTQ (d := 60) rfl rfl ?_
                  refine Fw.q (Fw.val_move rfl) rfl ?_
                  refine Fw.gTQ (d := 60) rfl rfl ?_
                  refine Fw.callQ cf52 rfl rfl (fun w_ hb_ => rright_any l[i] e _) (fun _ _ _ h => h) ?_
                  refine Fw.b2Q ?_ ?_
                  · rintro k8
                    refine Fw.gTQ (d := 60) rfl rfl ?_
                    refine Fw.q (Fw.val_not rfl) rfl ?_
                    refine Fw.q (Fw.val_pickF rfl rfl) rfl ?_
                    refine Fw.nilQ ?_
                    intro w7 hb
                    replace HSb := HSb.low hb
                    replace HB := HB.trans (hb.mono HB.size)
                    clear hb
                    refine hK3 _ _ (Fw.FC.sub (f' := [(69, _), (5, _), (0, _), (2, _), (3, _)]) (.cons rfl (.cons rfl (.cons rfl (.cons rfl (.cons rfl .nil))))) ?_)
                    refine Fw.condF rfl ?_
                    refine Fw.skip ?_
                    refine hK2 _ _ ?_
                    refine Fw.seq fun _ hK16 => ?_
                    refine Fw.region ?_
                    refine Fw.s (Fw.val_move rfl) rfl ?_
                    refine Fw.s (Fw.val_fieldAddr fl45_0 rfl rfl) rfl ?_
                    refine Fw.ld sc3 rfl (HSb.cell 0) rfl ?_
                    refine Fw.s (Fw.val_indexR Try.underlying28 sz40 rfl hA rfl hid hi hadd) rfl ?_
                    refine Fw.ldA ag40 rfl ((HE.low HB)) rfl rfl ?_
                    refine Fw.alloc ze40 rfl ?_
                    intro w8 gXu egXu HXu hb
                    have n_gSb_gXu : gSb < gXu := by have := HSb.lt; omega
                    have lgXu : w.heap.size ≤ gXu := by have := HB.size; omega
                    replace HSb := HSb.low hb
                    replace HB := HB.trans (hb.mono HB.size)
                    clear hb
                    clear egXu
                    refine Fw.storeW sz40 rfl rfl HXu rfl rfl (by exact Fw.oneCells rfl) ?_
                    intro w9 N_ hc
                    replace HSb := HSb.chg hc (by omega)
                    replace HB := HB.trans (hc.below (B := w.heap.size) (fun k e => by omega) HB.size)
                    clear hc
                    clear HXu
                    have HXu := N_
                    clear N_
                    refine Fw.nil ?_
                    refine hK16 _ _ ?_
                    refine Fw.seq fun _ hK18 => ?_
                    refine Fw.seq fun _ hK19 => ?_
                    refine Fw.region ?_
                    refine Fw.s (Fw.val_fieldAddr fl45_1 rfl rfl) rfl ?_
                    refine Fw.ld sc2 rfl (HSb.cell 1) rfl ?_
                    refine Fw.s (Fw.val_fieldAddr fl40_0 rfl rfl) rfl ?_
                    refine Fw.s (Fw.val_fieldAddr fl32_5 rfl rfl) rfl ?_
                    refine Fw.ld sc2 rfl (HXu.cell 5) rfl ?_
                    refine Fw.s2 (Fw.val_bin rfl rfl Fw.b_leq) rfl ?_ ?_
                    · rintro hsq
                      refine Fw.nil ?_
                      refine hK19 _ _ (Fw.FC.sub (f' := [(81, _), (11, _), (5, _), (0, _), (2, _), (3, _)]) (.cons rfl (.cons rfl (.cons rfl (.cons rfl (.cons rfl (.cons rfl .nil)))))) ?_)
                      refine Fw.condT rfl ?_
                      refine Fw.seq fun _ hK21 => ?_
                      refine Fw.region ?_
                      refine Fw.s (Fw.val_move rfl) rfl ?_
                      refine Fw.s (Fw.val_assign rfl) rfl ?_
                      refine Fw.s (Fw.val_assign rfl) rfl ?_
                      refine Fw.s (Fw.val_assign rfl) rfl ?_
                      refine Fw.nil ?_
                      refine hK21 _ _ (Fw.FC.sub (f' := [(10, _), (9, _), (8, _)]) (.cons rfl (.cons rfl (.cons rfl .nil))) ?_)
                      refine Fw.ret ?_
                      refine Fw.X_ret ?_
                      refine Fw.ret_ [.tmp 8, .tmp 9, .tmp 10] [_, _, _] Try.results32 (.tmp rfl (.tmp rfl (.tmp rfl .nil))) ?_
                      have p1 : Us.repB l[i] s = true := by unfold Us.repB; rw [k2, k3, show decide (1 ≤ s.q) = true from decide_eq_true (by omega), show decide (0 ≤ s.e ∧ s.e ≤ l[i].ep) = true from decide_eq_true (by omega)]; rfl
                      have p2 : Us.tickB now = true := decide_eq_true (by omega)
                      have hE : Us.repE l s now e = 9 := by unfold Us.repE; rw [hth, hg]; simp [p1, p2, k8, hsq]
                      have hL : Us.repL l s now e = l := by unfold Us.repL; rw [hE]; rfl
                      have hG : Us.repGone l s now e = false := by unfold Us.repGone; rw [hE]; rfl
                      rw [hE, hL, hG]
                      exact ⟨_, _, rfl, h.low HB, HB⟩
                    · rintro hsq
                      refine Fw.nil ?_
                      refine hK19 _ _ (Fw.FC.sub (f' := [(81, _), (11, _), (5, _), (0, _), (2, _), (3, _)]) (.cons rfl (.cons rfl (.cons rfl (.cons rfl (.cons rfl (.cons rfl .nil)))))) ?_)
                      refine Fw.condF rfl ?_
                      refine Fw.skip ?_
                      refine hK18 _ _ ?_
                      refine Fw.seq_cut [(11, .pointer (some ⟨gXu, 0, none⟩)), (5, .pointer (some ⟨gSb, 0, none⟩)), (0, .slice A l.length c), (3, .int .i64 e), (2, .int .i64 now)] (fun W_ => Blk W_ gSb 45 (Us.S.cells s).toArray ∧ Blk W_ gXu 40 (Us.U.cells { l[i] with seq := s.q, heard := now, node := s.n }).toArray ∧ Below (w.heap.size) w W_) ?_ (fun _ hK22 => ?_)
                      · rintro w10 ⟨HSb, HXu, HB⟩
                        refine Fw.seq_cut [(11, .pointer (some ⟨gXu, 0, none⟩)), (5, .pointer (some ⟨gSb, 0, none⟩)), (0, .slice A l.length c), (3, .int .i64 e), (2, .int .i64 now)] (fun W_ => Blk W_ gSb 45 (Us.S.cells s).toArray ∧ Blk W_ gXu 40 (Us.U.cells (Us.rep1 l[i] s now)).toArray ∧ Below (w.heap.size) w W_) ?_ (fun _ hK23 => ?_)
                        · rintro w11 ⟨HSb, HXu, HB⟩
                          refine Fw.seq fun _ hK24 => ?_
                          refine Fw.region ?_
                          refine Fw.s (Fw.val_assign rfl) rfl ?_
                          refine Fw.nil ?_
                          refine hK24 _ _ ?_
                          refine Fw.seq fun _ hK25 => ?_
                          refine Fw.seq fun _ hK26 => ?_
                          refine Fw.region ?_
                          refine Fw.s (Fw.val_fieldAddr fl45_2 rfl rfl) rfl ?_
                          refine Fw.ld sc3 rfl (HSb.cell 2) rfl ?_
                          refine Fw.s2 (Fw.val_bin rfl rfl Fw.b_eql) rfl ?_ ?_
                          · rintro h6
                            refine Fw.nil ?_
                            refine hK26 _ _ ?_
                            refine Fw.condT rfl ?_
                            refine Fw.seq fun _ hK28 => ?_
                            refine Fw.region ?_
                            refine Fw.s (Fw.val_fieldAddr fl40_0 rfl rfl) rfl ?_
                            refine Fw.s (Fw.val_fieldAddr fl32_3 rfl rfl) rfl ?_
                            refine Fw.store sz3 rfl rfl HXu rfl rfl rfl ?_
                            intro w12 N_ hc
                            replace HSb := HSb.chg hc (by omega)
                            replace HB := HB.trans (hc.below (B := w.heap.size) (fun k e => by omega) HB.size)
                            clear hc
                            clear HXu
                            have HXu := N_
                            clear N_
                            refine Fw.nil ?_
                            refine hK28 _ _ (Fw.FC.sub (f' := [(12, _), (11, _), (0, _), (3, _)]) (.cons rfl (.cons rfl (.cons rfl (.cons rfl .nil)))) ?_)
                            refine Fw.seq fun _ hK29 => ?_
                            refine Fw.region ?_
                            refine Fw.s (Fw.val_fieldAddr fl40_0 rfl rfl) rfl ?_
                            refine Fw.s (Fw.val_fieldAddr fl32_7 rfl rfl) rfl ?_
                            refine Fw.ld sc2 rfl (HXu.cell 7) rfl ?_
                            refine Fw.s2 (Fw.val_bin rfl rfl Fw.b_neq) rfl ?_ ?_
                            · rintro hinc
                              refine Fw.nil ?_
                              refine hK29 _ _ ?_
                              refine Fw.condT rfl ?_
                              refine Fw.seq fun _ hK31 => ?_
                              refine Fw.region ?_
                              refine Fw.s (Fw.val_assign rfl) rfl ?_
                              refine Fw.nil ?_
                              refine hK31 _ _ ?_
                              refine Fw.seq fun _ hK32 => ?_
                              refine Fw.region ?_
                              refine Fw.s (Fw.val_fieldAddr fl40_0 rfl rfl) rfl ?_
                              refine Fw.s (Fw.val_fieldAddr fl32_7 rfl rfl) rfl ?_
                              refine Fw.store sz2 rfl rfl HXu rfl rfl rfl ?_
                              intro w13 N_ hc
                              replace HSb := HSb.chg hc (by omega)
                              replace HB := HB.trans (hc.below (B := w.heap.size) (fun k e => by omega) HB.size)
                              clear hc
                              clear HXu
                              have HXu := N_
                              clear N_
                              refine Fw.nil ?_
                              refine hK32 _ _ (Fw.FC.sub (f' := [(12, _), (11, _), (0, _), (3, _)]) (.cons rfl (.cons rfl (.cons rfl (.cons rfl .nil)))) ?_)
                              refine Fw.region ?_
                              refine Fw.ldA ag40 rfl (Fw.rdBlk HXu) rfl rfl ?_
                              refine Fw.s (Fw.val_move rfl) rfl ?_
                              refine Fw.s (Fw.val_build (ps := [(1, _), (2, _)]) rfl (bu36_1_2 _ _)) rfl ?_
                              refine Fw.call cf53 rfl rfl (rgiven_any { Us.rep1 l[i] s now with state := 6, inc := 0 } 0 e 2 0 0 _) ?_
                              rintro e_ w14 ⟨rfl, hb⟩
                              refine ⟨_, rfl, ?_⟩
                              replace HSb := HSb.low hb
                              replace HXu := HXu.low hb
                              replace HB := HB.trans (hb.mono HB.size)
                              clear hb
                              refine Fw.storeW sz40 rfl rfl HXu rfl rfl (by exact Fw.oneCells rfl) ?_
                              intro w15 N_ hc
                              replace HSb := HSb.chg hc (by omega)
                              replace HB := HB.trans (hc.below (B := w.heap.size) (fun k e => by omega) HB.size)
                              clear hc
                              clear HXu
                              have HXu := N_
                              clear N_
                              refine Fw.nil ?_
                              refine hK25 _ _ ?_
                              refine Fw.seq fun _ hK33 => ?_
                              refine Fw.region ?_
                              refine Fw.s (Fw.val_move rfl) rfl ?_
                              refine Fw.ldA ag40 rfl (Fw.rdBlk HXu) rfl rfl ?_
                              refine Fw.call cf54 rfl rfl (rwith_any _ A l c (Us.issue { Us.rep1 l[i] s now with state := 6, inc := 0 } e 2 0 0) i _ rfl (h.low HB) (by exact hwi) hi hl) ?_
                              rintro e_ w16 ⟨A1, cc1, rfl, HW, hb⟩
                              refine ⟨_, rfl, ?_⟩
                              replace HSb := HSb.low hb
                              replace HXu := HXu.low hb
                              replace HB := HB.trans (hb.mono HB.size)
                              clear hb
                              refine Fw.s (Fw.val_move rfl) rfl ?_
                              refine Fw.s (Fw.val_assign rfl) rfl ?_
                              refine Fw.s (Fw.val_assign rfl) rfl ?_
                              refine Fw.s (Fw.val_assign rfl) rfl ?_
                              refine Fw.nil ?_
                              refine hK33 _ _ (Fw.FC.sub (f' := [(10, _), (9, _), (8, _)]) (.cons rfl (.cons rfl (.cons rfl .nil))) ?_)
                              refine Fw.ret ?_
                              refine Fw.ret_ [.tmp 8, .tmp 9, .tmp 10] [_, _, _] Try.results32 (.tmp rfl (.tmp rfl (.tmp rfl .nil))) ?_
                              have p1 : Us.repB l[i] s = true := by unfold Us.repB; rw [k2, k3, show decide (1 ≤ s.q) = true from decide_eq_true (by omega), show decide (0 ≤ s.e ∧ s.e ≤ l[i].ep) = true from decide_eq_true (by omega)]; rfl
                              have p2 : Us.tickB now = true := decide_eq_true (by omega)
                              have hE : Us.repE l s now e = 0 := by unfold Us.repE; rw [hth, hg]; simp [p1, p2, k8, hsq]
                              have hinc2 : l[i].inc ≠ 0 := hinc
                              have hU : Us.repU l[i] s now e = Us.issue { Us.rep1 l[i] s now with state := 6, inc := 0 } e 2 0 0 := by
                                unfold Us.repU; rw [if_pos h6, if_pos hinc2]
                              have hB : Us.repG l[i] s = true := by
                                simp only [Us.repG, h6]; simp [hinc2]
                              have hL : Us.repL l s now e = l.set i (Us.issue { Us.rep1 l[i] s now with state := 6, inc := 0 } e 2 0 0) := by
                                unfold Us.repL; rw [if_pos hE, hg, hU]; unfold Us.put; rw [hid, Int.toNat_natCast]
                              have hG : Us.repGone l s now e = true := by unfold Us.repGone; rw [hE, hg, hB]; rfl
                              rw [hE, hL, hG]
                              exact ⟨_, _, by rw [List.length_set]; rfl, HW, HB⟩
                            · rintro hinc
                              refine Fw.nil ?_
                              refine hK29 _ _ ?_
                              refine Fw.condF rfl ?_
                              refine Fw.skip ?_
                              refine hK25 _ _ ?_
                              refine Fw.seq fun _ hK34 => ?_
                              refine Fw.region ?_
                              refine Fw.s (Fw.val_move rfl) rfl ?_
                              refine Fw.ldA ag40 rfl (Fw.rdBlk HXu) rfl rfl ?_
                              refine Fw.call cf54 rfl rfl (rwith_any _ A l c ({ Us.rep1 l[i] s now with state := 6 }) i _ rfl (h.low HB) (by exact hwi) hi hl) ?_
                              rintro e_ w17 ⟨A1, cc1, rfl, HW, hb⟩
                              refine ⟨_, rfl, ?_⟩
                              replace HSb := HSb.low hb
                              replace HXu := HXu.low hb
                              replace HB := HB.trans (hb.mono HB.size)
                              clear hb
                              refine Fw.s (Fw.val_move rfl) rfl ?_
                              refine Fw.s (Fw.val_assign rfl) rfl ?_
                              refine Fw.s (Fw.val_assign rfl) rfl ?_
                              refine Fw.s (Fw.val_assign rfl) rfl ?_
                              refine Fw.nil ?_
                              refine hK34 _ _ (Fw.FC.sub (f' := [(10, _), (9, _), (8, _)]) (.cons rfl (.cons rfl (.cons rfl .nil))) ?_)
                              refine Fw.ret ?_
                              refine Fw.ret_ [.tmp 8, .tmp 9, .tmp 10] [_, _, _] Try.results32 (.tmp rfl (.tmp rfl (.tmp rfl .nil))) ?_
                              have p1 : Us.repB l[i] s = true := by unfold Us.repB; rw [k2, k3, show decide (1 ≤ s.q) = true from decide_eq_true (by omega), show decide (0 ≤ s.e ∧ s.e ≤ l[i].ep) = true from decide_eq_true (by omega)]; rfl
                              have p2 : Us.tickB now = true := decide_eq_true (by omega)
                              have hE : Us.repE l s now e = 0 := by unfold Us.repE; rw [hth, hg]; simp [p1, p2, k8, hsq]
                              have hinc2 : l[i].inc = 0 := Classical.byContradiction hinc
                              have hU : Us.repU l[i] s now e = { Us.rep1 l[i] s now with state := 6 } := by
                                unfold Us.repU; rw [if_pos h6, if_neg (fun hh => hh hinc2)]; unfold Us.rep1; rw [← hinc2]
                              have hB : Us.repG l[i] s = false := by
                                simp [Us.repG, hinc2]
                              have hL : Us.repL l s now e = l.set i ({ Us.rep1 l[i] s now with state := 6 }) := by
                                unfold Us.repL; rw [if_pos hE, hg, hU]; unfold Us.put; rw [hid, Int.toNat_natCast]
                              have hG : Us.repGone l s now e = false := by unfold Us.repGone; rw [hE, hg, hB]; rfl
                              rw [hE, hL, hG]
                              exact ⟨_, _, by rw [List.length_set]; rfl, HW, HB⟩
                          · rintro h6
                            refine Fw.nil ?_
                            refine hK26 _ _ ?_
                            refine Fw.condF rfl ?_
                            refine Fw.seq fun _ hK35 => ?_
                            refine Fw.region ?_
                            refine Fw.s (Fw.val_fieldAddr fl45_4 rfl rfl) rfl ?_
                            refine Fw.ld sc2 rfl (HSb.cell 4) rfl ?_
                            refine Fw.s (Fw.val_fieldAddr fl40_0 rfl rfl) rfl ?_
                            refine Fw.s (Fw.val_fieldAddr fl32_8 rfl rfl) rfl ?_
                            refine Fw.ld sc2 rfl (HXu.cell 8) rfl ?_
                            refine Fw.s2 (Fw.val_bin rfl rfl Fw.b_eql) rfl ?_ ?_
                            · rintro hep
                              refine Fw.nil ?_
                              refine hK35 _ _ (Fw.FC.sub (f' := [(124, _), (12, _), (11, _), (5, _), (0, _)]) (.cons rfl (.cons rfl (.cons rfl (.cons rfl (.cons rfl .nil))))) ?_)
                              refine Fw.condT rfl ?_
                              refine Fw.seq fun _ hK37 => ?_
                              refine Fw.region ?_
                              refine Fw.s (Fw.val_fieldAddr fl45_2 rfl rfl) rfl ?_
                              refine Fw.ld sc3 rfl (HSb.cell 2) rfl ?_
                              refine Fw.s (Fw.val_fieldAddr fl40_0 rfl rfl) rfl ?_
                              refine Fw.s (Fw.val_fieldAddr fl32_3 rfl rfl) rfl ?_
                              refine Fw.store sz3 rfl rfl HXu rfl rfl rfl ?_
                              intro w18 N_ hc
                              replace HSb := HSb.chg hc (by omega)
                              replace HB := HB.trans (hc.below (B := w.heap.size) (fun k e => by omega) HB.size)
                              clear hc
                              clear HXu
                              have HXu := N_
                              clear N_
                              refine Fw.nil ?_
                              refine hK37 _ _ ?_
                              refine Fw.seq fun _ hK38 => ?_
                              refine Fw.region ?_
                              refine Fw.s (Fw.val_fieldAddr fl45_2 rfl rfl) rfl ?_
                              refine Fw.ld sc3 rfl (HSb.cell 2) rfl ?_
                              refine Fw.s2 (Fw.val_bin rfl rfl Fw.b_eql) rfl ?_ ?_
                              · rintro hs1
                                refine Fw.s (Fw.val_move rfl) rfl ?_
                                refine Fw.gT (d := 132) rfl rfl ?_
                                refine Fw.s (Fw.val_fieldAddr fl40_0 rfl rfl) rfl ?_
                                refine Fw.gT (d := 132) rfl rfl ?_
                                refine Fw.s (Fw.val_fieldAddr fl32_7 rfl rfl) rfl ?_
                                refine Fw.gT (d := 132) rfl rfl ?_
                                refine Fw.ld sc2 rfl (HXu.cell 7) rfl ?_
                                refine Fw.gT (d := 132) rfl rfl ?_
                                refine Fw.s2 (Fw.val_bin rfl rfl Fw.b_neq) rfl ?_ ?_
                                · rintro hinc
                                  refine Fw.s (Fw.val_pickT rfl rfl) rfl ?_
                                  refine Fw.nil ?_
                                  refine hK38 _ _ (Fw.FC.sub (f' := [(137, _), (12, _), (11, _), (0, _)]) (.cons rfl (.cons rfl (.cons rfl (.cons rfl .nil)))) ?_)
                                  refine Fw.condT rfl ?_
                                  refine Fw.seq fun _ hK41 => ?_
                                  refine Fw.region ?_
                                  refine Fw.s (Fw.val_assign rfl) rfl ?_
                                  refine Fw.nil ?_
                                  refine hK41 _ _ ?_
                                  refine Fw.region ?_
                                  refine Fw.s (Fw.val_fieldAddr fl40_0 rfl rfl) rfl ?_
                                  refine Fw.s (Fw.val_fieldAddr fl32_7 rfl rfl) rfl ?_
                                  refine Fw.store sz2 rfl rfl HXu rfl rfl rfl ?_
                                  intro w19 N_ hc
                                  replace HSb := HSb.chg hc (by omega)
                                  replace HB := HB.trans (hc.below (B := w.heap.size) (fun k e => by omega) HB.size)
                                  clear hc
                                  clear HXu
                                  have HXu := N_
                                  clear N_
                                  refine Fw.nil ?_
                                  refine hK25 _ _ ?_
                                  refine Fw.seq fun _ hK42 => ?_
                                  refine Fw.region ?_
                                  refine Fw.s (Fw.val_move rfl) rfl ?_
                                  refine Fw.ldA ag40 rfl (Fw.rdBlk HXu) rfl rfl ?_
                                  refine Fw.call cf54 rfl rfl (rwith_any _ A l c ({ Us.rep1 l[i] s now with state := s.s, inc := 0 }) i _ rfl (h.low HB) (by exact hwi) hi hl) ?_
                                  rintro e_ w20 ⟨A1, cc1, rfl, HW, hb⟩
                                  refine ⟨_, rfl, ?_⟩
                                  replace HSb := HSb.low hb
                                  replace HXu := HXu.low hb
                                  replace HB := HB.trans (hb.mono HB.size)
                                  clear hb
                                  refine Fw.s (Fw.val_move rfl) rfl ?_
                                  refine Fw.s (Fw.val_assign rfl) rfl ?_
                                  refine Fw.s (Fw.val_assign rfl) rfl ?_
                                  refine Fw.s (Fw.val_assign rfl) rfl ?_
                                  refine Fw.nil ?_
                                  refine hK42 _ _ (Fw.FC.sub (f' := [(10, _), (9, _), (8, _)]) (.cons rfl (.cons rfl (.cons rfl .nil))) ?_)
                                  refine Fw.ret ?_
                                  refine Fw.ret_ [.tmp 8, .tmp 9, .tmp 10] [_, _, _] Try.results32 (.tmp rfl (.tmp rfl (.tmp rfl .nil))) ?_
                                  have p1 : Us.repB l[i] s = true := by unfold Us.repB; rw [k2, k3, show decide (1 ≤ s.q) = true from decide_eq_true (by omega), show decide (0 ≤ s.e ∧ s.e ≤ l[i].ep) = true from decide_eq_true (by omega)]; rfl
                                  have p2 : Us.tickB now = true := decide_eq_true (by omega)
                                  have hE : Us.repE l s now e = 0 := by unfold Us.repE; rw [hth, hg]; simp [p1, p2, k8, hsq]
                                  have hep2 : s.e = l[i].ep := hep
                                  have hinc2 : l[i].inc ≠ 0 := hinc
                                  have hU : Us.repU l[i] s now e = { Us.rep1 l[i] s now with state := s.s, inc := 0 } := by
                                    unfold Us.repU; rw [if_neg h6, if_neg (fun hh => hh hep2), if_pos hs1]
                                  have hB : Us.repG l[i] s = true := by
                                    simp [Us.repG, hinc2, hep2, hs1]
                                  have hL : Us.repL l s now e = l.set i ({ Us.rep1 l[i] s now with state := s.s, inc := 0 }) := by
                                    unfold Us.repL; rw [if_pos hE, hg, hU]; unfold Us.put; rw [hid, Int.toNat_natCast]
                                  have hG : Us.repGone l s now e = true := by unfold Us.repGone; rw [hE, hg, hB]; rfl
                                  rw [hE, hL, hG]
                                  exact ⟨_, _, by rw [List.length_set]; rfl, HW, HB⟩
                                · rintro hinc
                                  refine Fw.s (Fw.val_pickT rfl rfl) rfl ?_
                                  refine Fw.nil ?_
                                  refine hK38 _ _ (Fw.FC.sub (f' := [(137, _), (12, _), (11, _), (0, _)]) (.cons rfl (.cons rfl (.cons rfl (.cons rfl .nil)))) ?_)
                                  refine Fw.condF rfl ?_
                                  refine Fw.skip ?_
                                  refine hK25 _ _ ?_
                                  refine Fw.seq fun _ hK43 => ?_
                                  refine Fw.region ?_
                                  refine Fw.s (Fw.val_move rfl) rfl ?_
                                  refine Fw.ldA ag40 rfl (Fw.rdBlk HXu) rfl rfl ?_
                                  refine Fw.call cf54 rfl rfl (rwith_any _ A l c ({ Us.rep1 l[i] s now with state := s.s }) i _ rfl (h.low HB) (by exact hwi) hi hl) ?_
                                  rintro e_ w21 ⟨A1, cc1, rfl, HW, hb⟩
                                  refine ⟨_, rfl, ?_⟩
                                  replace HSb := HSb.low hb
                                  replace HXu := HXu.low hb
                                  replace HB := HB.trans (hb.mono HB.size)
                                  clear hb
                                  refine Fw.s (Fw.val_move rfl) rfl ?_
                                  refine Fw.s (Fw.val_assign rfl) rfl ?_
                                  refine Fw.s (Fw.val_assign rfl) rfl ?_
                                  refine Fw.s (Fw.val_assign rfl) rfl ?_
                                  refine Fw.nil ?_
                                  refine hK43 _ _ (Fw.FC.sub (f' := [(10, _), (9, _), (8, _)]) (.cons rfl (.cons rfl (.cons rfl .nil))) ?_)
                                  refine Fw.ret ?_
                                  refine Fw.ret_ [.tmp 8, .tmp 9, .tmp 10] [_, _, _] Try.results32 (.tmp rfl (.tmp rfl (.tmp rfl .nil))) ?_
                                  have p1 : Us.repB l[i] s = true := by unfold Us.repB; rw [k2, k3, show decide (1 ≤ s.q) = true from decide_eq_true (by omega), show decide (0 ≤ s.e ∧ s.e ≤ l[i].ep) = true from decide_eq_true (by omega)]; rfl
                                  have p2 : Us.tickB now = true := decide_eq_true (by omega)
                                  have hE : Us.repE l s now e = 0 := by unfold Us.repE; rw [hth, hg]; simp [p1, p2, k8, hsq]
                                  have hep2 : s.e = l[i].ep := hep
                                  have hinc2 : l[i].inc = 0 := Classical.byContradiction hinc
                                  have hU : Us.repU l[i] s now e = { Us.rep1 l[i] s now with state := s.s } := by
                                    unfold Us.repU; rw [if_neg h6, if_neg (fun hh => hh hep2), if_pos hs1]; unfold Us.rep1; rw [← hinc2]
                                  have hB : Us.repG l[i] s = false := by
                                    simp [Us.repG, hinc2]
                                  have hL : Us.repL l s now e = l.set i ({ Us.rep1 l[i] s now with state := s.s }) := by
                                    unfold Us.repL; rw [if_pos hE, hg, hU]; unfold Us.put; rw [hid, Int.toNat_natCast]
                                  have hG : Us.repGone l s now e = false := by unfold Us.repGone; rw [hE, hg, hB]; rfl
                                  rw [hE, hL, hG]
                                  exact ⟨_, _, by rw [List.length_set]; rfl, HW, HB⟩
                              · rintro hs1
                                refine Fw.s (Fw.val_move rfl) rfl ?_
                                refine Fw.gF (d := 132) rfl rfl rfl rfl ?_
                                refine Fw.gF (d := 132) rfl rfl rfl rfl ?_
                                refine Fw.gF (d := 132) rfl rfl rfl rfl ?_
                                refine Fw.gF (d := 132) rfl rfl rfl rfl ?_
                                refine Fw.s (Fw.val_pickF rfl rfl) rfl ?_
                                refine Fw.nil ?_
                                refine hK38 _ _ (Fw.FC.sub (f' := [(137, _), (12, _), (11, _), (0, _)]) (.cons rfl (.cons rfl (.cons rfl (.cons rfl .nil)))) ?_)
                                refine Fw.condF rfl ?_
                                refine Fw.skip ?_
                                refine hK25 _ _ ?_
                                refine Fw.seq fun _ hK44 => ?_
                                refine Fw.region ?_
                                refine Fw.s (Fw.val_move rfl) rfl ?_
                                refine Fw.ldA ag40 rfl (Fw.rdBlk HXu) rfl rfl ?_
                                refine Fw.call cf54 rfl rfl (rwith_any _ A l c ({ Us.rep1 l[i] s now with state := s.s }) i _ rfl (h.low HB) (by exact hwi) hi hl) ?_
                                rintro e_ w22 ⟨A1, cc1, rfl, HW, hb⟩
                                refine ⟨_, rfl, ?_⟩
                                replace HSb := HSb.low hb
                                replace HXu := HXu.low hb
                                replace HB := HB.trans (hb.mono HB.size)
                                clear hb
                                refine Fw.s (Fw.val_move rfl) rfl ?_
                                refine Fw.s (Fw.val_assign rfl) rfl ?_
                                refine Fw.s (Fw.val_assign rfl) rfl ?_
                                refine Fw.s (Fw.val_assign rfl) rfl ?_
                                refine Fw.nil ?_
                                refine hK44 _ _ (Fw.FC.sub (f' := [(10, _), (9, _), (8, _)]) (.cons rfl (.cons rfl (.cons rfl .nil))) ?_)
                                refine Fw.ret ?_
                                refine Fw.ret_ [.tmp 8, .tmp 9, .tmp 10] [_, _, _] Try.results32 (.tmp rfl (.tmp rfl (.tmp rfl .nil))) ?_
                                have p1 : Us.repB l[i] s = true := by unfold Us.repB; rw [k2, k3, show decide (1 ≤ s.q) = true from decide_eq_true (by omega), show decide (0 ≤ s.e ∧ s.e ≤ l[i].ep) = true from decide_eq_true (by omega)]; rfl
                                have p2 : Us.tickB now = true := decide_eq_true (by omega)
                                have hE : Us.repE l s now e = 0 := by unfold Us.repE; rw [hth, hg]; simp [p1, p2, k8, hsq]
                                have hep2 : s.e = l[i].ep := hep
                                have hU : Us.repU l[i] s now e = { Us.rep1 l[i] s now with state := s.s } := by
                                  unfold Us.repU; rw [if_neg h6, if_neg (fun hh => hh hep2), if_neg hs1]
                                have hB : Us.repG l[i] s = false := by
                                  simp [Us.repG, h6, hs1]
                                have hL : Us.repL l s now e = l.set i ({ Us.rep1 l[i] s now with state := s.s }) := by
                                  unfold Us.repL; rw [if_pos hE, hg, hU]; unfold Us.put; rw [hid, Int.toNat_natCast]
                                have hG : Us.repGone l s now e = false := by unfold Us.repGone; rw [hE, hg, hB]; rfl
                                rw [hE, hL, hG]
                                exact ⟨_, _, by rw [List.length_set]; rfl, HW, HB⟩
                            · rintro hep
                              refine Fw.nil ?_
                              refine hK35 _ _ (Fw.FC.sub (f' := [(124, _), (12, _), (11, _), (5, _), (0, _)]) (.cons rfl (.cons rfl (.cons rfl (.cons rfl (.cons rfl .nil))))) ?_)
                              refine Fw.condF rfl ?_
                              refine Fw.skip ?_
                              refine hK25 _ _ ?_
                              refine Fw.seq fun _ hK45 => ?_
                              refine Fw.region ?_
                              refine Fw.s (Fw.val_move rfl) rfl ?_
                              refine Fw.ldA ag40 rfl (Fw.rdBlk HXu) rfl rfl ?_
                              refine Fw.call cf54 rfl rfl (rwith_any _ A l c (Us.rep1 l[i] s now) i _ rfl (h.low HB) (by exact hwi) hi hl) ?_
                              rintro e_ w23 ⟨A1, cc1, rfl, HW, hb⟩
                              refine ⟨_, rfl, ?_⟩
                              replace HSb := HSb.low hb
                              replace HXu := HXu.low hb
                              replace HB := HB.trans (hb.mono HB.size)
                              clear hb
                              refine Fw.s (Fw.val_move rfl) rfl ?_
                              refine Fw.s (Fw.val_assign rfl) rfl ?_
                              refine Fw.s (Fw.val_assign rfl) rfl ?_
                              refine Fw.s (Fw.val_assign rfl) rfl ?_
                              refine Fw.nil ?_
                              refine hK45 _ _ (Fw.FC.sub (f' := [(10, _), (9, _), (8, _)]) (.cons rfl (.cons rfl (.cons rfl .nil))) ?_)
                              refine Fw.ret ?_
                              refine Fw.ret_ [.tmp 8, .tmp 9, .tmp 10] [_, _, _] Try.results32 (.tmp rfl (.tmp rfl (.tmp rfl .nil))) ?_
                              have p1 : Us.repB l[i] s = true := by unfold Us.repB; rw [k2, k3, show decide (1 ≤ s.q) = true from decide_eq_true (by omega), show decide (0 ≤ s.e ∧ s.e ≤ l[i].ep) = true from decide_eq_true (by omega)]; rfl
                              have p2 : Us.tickB now = true := decide_eq_true (by omega)
                              have hE : Us.repE l s now e = 0 := by unfold Us.repE; rw [hth, hg]; simp [p1, p2, k8, hsq]
                              have hep2 : ¬ s.e = l[i].ep := hep
                              have hU : Us.repU l[i] s now e = Us.rep1 l[i] s now := by
                                unfold Us.repU; rw [if_neg h6, if_pos hep2]
                              have hB : Us.repG l[i] s = false := by
                                simp [Us.repG, h6, hep2]
                              have hL : Us.repL l s now e = l.set i (Us.rep1 l[i] s now) := by
                                unfold Us.repL; rw [if_pos hE, hg, hU]; unfold Us.put; rw [hid, Int.toNat_natCast]
                              have hG : Us.repGone l s now e = false := by unfold Us.repGone; rw [hE, hg, hB]; rfl
                              rw [hE, hL, hG]
                              exact ⟨_, _, by rw [List.length_set]; rfl, HW, HB⟩
                        · skip
                          refine Fw.seq fun _ hK46 => ?_
                          refine Fw.region ?_
                          refine Fw.s (Fw.val_fieldAddr fl45_4 rfl rfl) rfl ?_
                          refine Fw.ld sc2 rfl (HSb.cell 4) rfl ?_
                          refine Fw.s (Fw.val_fieldAddr fl40_0 rfl rfl) rfl ?_
                          refine Fw.s (Fw.val_fieldAddr fl32_9 rfl rfl) rfl ?_
                          refine Fw.ld sc2 rfl (HXu.cell 9) rfl ?_
                          refine Fw.s2 (Fw.val_bin rfl rfl Fw.b_gtr) rfl ?_ ?_
                          · rintro hmx
                            refine Fw.nil ?_
                            refine hK46 _ _ ?_
                            refine Fw.condT rfl ?_
                            refine Fw.region ?_
                            refine Fw.s (Fw.val_fieldAddr fl45_4 rfl rfl) rfl ?_
                            refine Fw.ld sc2 rfl (HSb.cell 4) rfl ?_
                            refine Fw.s (Fw.val_fieldAddr fl40_0 rfl rfl) rfl ?_
                            refine Fw.s (Fw.val_fieldAddr fl32_9 rfl rfl) rfl ?_
                            refine Fw.store sz2 rfl rfl HXu rfl rfl rfl ?_
                            intro w24 N_ hc
                            replace HSb := HSb.chg hc (by omega)
                            replace HB := HB.trans (hc.below (B := w.heap.size) (fun k e => by omega) HB.size)
                            clear hc
                            clear HXu
                            have HXu := N_
                            clear N_
                            refine Fw.nil ?_
                            have hmx1 : s.e > l[i].ack := hmx
                            have hmx2 : max l[i].ack s.e = s.e := by omega
                            replace HXu : Blk w24 gXu 40 (Us.U.cells (Us.rep1 l[i] s now)).toArray := by unfold Us.rep1; rw [hmx2]; exact HXu
                            exact hK23 _ _ ⟨HSb, HXu, HB⟩ (.cons rfl (.cons rfl (.cons rfl (.cons rfl (.cons rfl .nil)))))
                          · rintro hmx
                            refine Fw.nil ?_
                            refine hK46 _ _ ?_
                            refine Fw.condF rfl ?_
                            refine Fw.skip ?_
                            have hmx1 : ¬ s.e > l[i].ack := hmx
                            have hmx2 : max l[i].ack s.e = l[i].ack := by omega
                            replace HXu : Blk w10 gXu 40 (Us.U.cells (Us.rep1 l[i] s now)).toArray := by unfold Us.rep1; rw [hmx2]; exact HXu
                            exact hK23 _ _ ⟨HSb, HXu, HB⟩ (.cons rfl (.cons rfl (.cons rfl (.cons rfl (.cons rfl .nil)))))
                      · skip
                        refine Fw.regionHS (Chg (· = gXu) w9) (by kernel_rfl) (Chg.of_below (Fw.drew_low w9) _) ?_
                        have R_HSb := HSb
                        have R_HXu := HXu
                        have R_HB := HB
                        intro w25 hb HS
                        replace HSb := HSb.low hb
                        replace HXu := HXu.low hb
                        replace HB := HB.trans (hb.mono HB.size)
                        clear hb
                        refine Fw.hTake 0 rfl rfl (by kernel_rfl) (by kernel_rfl) (by kernel_rfl) (Fw.yV (Fw.val_fieldAddr fl45_1 rfl rfl)) rfl ?_
                        refine Fw.hTake 1 rfl rfl (by kernel_rfl) (by kernel_rfl) (by kernel_rfl) (Fw.yV (Fw.hLdC sc2 rfl (R_HSb.cell 1) (by show ¬ gSb = gXu; omega))) rfl ?_
                        refine Fw.hTake 2 rfl rfl (by kernel_rfl) (by kernel_rfl) (by kernel_rfl) (Fw.yV (Fw.val_move rfl)) rfl ?_
                        refine Fw.hTake 3 rfl rfl (by kernel_rfl) (by kernel_rfl) (by kernel_rfl) (Fw.yV (Fw.val_fieldAddr fl45_3 rfl rfl)) rfl ?_
                        refine Fw.hTake 4 rfl rfl (by kernel_rfl) (by kernel_rfl) (by kernel_rfl) (Fw.yV (Fw.hLdC sc3 rfl (R_HSb.cell 3) (by show ¬ gSb = gXu; omega))) rfl ?_
                        refine Fw.hTake 5 rfl rfl (by kernel_rfl) (by kernel_rfl) (by kernel_rfl) (Fw.yV (Fw.val_fieldAddr fl40_0 rfl rfl)) rfl ?_
                        refine Fw.hTake 6 rfl rfl (by kernel_rfl) (by kernel_rfl) (by kernel_rfl) (Fw.yV (Fw.val_fieldAddr fl32_5 rfl rfl)) rfl ?_
                        refine Fw.hAll1 7 (by kernel_rfl) ?_
                        refine Fw.hOp 7 rfl ?_
                        refine Fw.store sz2 rfl rfl HXu rfl rfl rfl ?_
                        intro w26 N_ hc
                        replace HSb := HSb.chg hc (by omega)
                        replace HS := HS.trans hc (fun _ _ h => h)
                        replace HB := HB.trans (hc.below (B := w.heap.size) (fun k e => by omega) HB.size)
                        clear hc
                        clear HXu
                        have HXu := N_
                        clear N_
                        refine Fw.hNext HS ?_
                        refine Fw.hTake 8 rfl rfl (by kernel_rfl) (by kernel_rfl) (by kernel_rfl) (Fw.yV (Fw.val_fieldAddr fl40_0 rfl rfl)) rfl ?_
                        refine Fw.hTake 9 rfl rfl (by kernel_rfl) (by kernel_rfl) (by kernel_rfl) (Fw.yV (Fw.val_fieldAddr fl32_6 rfl rfl)) rfl ?_
                        refine Fw.hAll1 10 (by kernel_rfl) ?_
                        refine Fw.hOp 10 rfl ?_
                        refine Fw.store sz2 rfl rfl HXu rfl rfl rfl ?_
                        intro w27 N_ hc
                        replace HSb := HSb.chg hc (by omega)
                        replace HS := HS.trans hc (fun _ _ h => h)
                        replace HB := HB.trans (hc.below (B := w.heap.size) (fun k e => by omega) HB.size)
                        clear hc
                        clear HXu
                        have HXu := N_
                        clear N_
                        refine Fw.hNext HS ?_
                        refine Fw.hTake 11 rfl rfl (by kernel_rfl) (by kernel_rfl) (by kernel_rfl) (Fw.yV (Fw.val_fieldAddr fl40_0 rfl rfl)) rfl ?_
                        refine Fw.hTake 12 rfl rfl (by kernel_rfl) (by kernel_rfl) (by kernel_rfl) (Fw.yV (Fw.val_fieldAddr fl32_4 rfl rfl)) rfl ?_
                        refine Fw.hAll1 13 (by kernel_rfl) ?_
                        refine Fw.hOp 13 rfl ?_
                        refine Fw.store sz3 rfl rfl HXu rfl rfl rfl ?_
                        intro w28 N_ hc
                        replace HSb := HSb.chg hc (by omega)
                        replace HS := HS.trans hc (fun _ _ h => h)
                        replace HB := HB.trans (hc.below (B := w.heap.size) (fun k e => by omega) HB.size)
                        clear hc
                        clear HXu
                        have HXu := N_
                        clear N_
                        refine Fw.hNext HS ?_
                        refine Fw.hDone (by kernel_rfl) ?_
                        exact hK22 _ _ ⟨HSb, HXu, HB⟩ (.cons rfl (.cons rfl (.cons rfl (.cons rfl (.cons rfl .nil)))))
                  · rintro k8
                    refine Fw.gTQ (d := 60) rfl rfl ?_
                    refine Fw.q (Fw.val_not rfl) rfl ?_
                    refine Fw.q (Fw.val_pickF rfl rfl) rfl ?_
                    refine Fw.nilQ ?_
                    intro w29 hb
                    replace HSb := HSb.low hb
                    replace HB := HB.trans (hb.mono HB.size)
                    clear hb
                    refine hK3 _ _ (Fw.FC.sub (f' := [(69, _), (5, _), (0, _), (2, _), (3, _)]) (.cons rfl (.cons rfl (.cons rfl (.cons rfl (.cons rfl .nil))))) ?_)
                    refine Fw.condT rfl ?_
                    refine Fw.seq fun _ hK48 => ?_
                    refine Fw.region ?_
                    refine Fw.s (Fw.val_move rfl) rfl ?_
                    refine Fw.s (Fw.val_assign rfl) rfl ?_
                    refine Fw.s (Fw.val_assign rfl) rfl ?_
                    refine Fw.s (Fw.val_assign rfl) rfl ?_
                    refine Fw.nil ?_
                    refine hK48 _ _ ?_
                    refine Fw.ret ?_
                    refine Fw.X_ret ?_
                    refine Fw.ret_ [.tmp 8, .tmp 9, .tmp 10] [_, _, _] Try.results32 (.tmp rfl (.tmp rfl (.tmp rfl .nil))) ?_
                    have hf := k8
                    have hE : Us.repE l s now e = 1 := by unfold Us.repE; rw [hth, hg]; simp [hf]
                    have hL : Us.repL l s now e = l := by unfold Us.repL; rw [hE]; rfl
                    have hG : Us.repGone l s now e = false := by unfold Us.repGone; rw [hE]; rfl
                    rw [hE, hL, hG]
                    exact ⟨_, _, rfl, h.low HB, HB⟩
        · rintro k3
          refine Fw.gTQ (d := 29) rfl rfl ?_
          refine Fw.q (Fw.val_not rfl) rfl ?_
          refine Fw.q (Fw.val_pickF rfl rfl) rfl ?_
          refine Fw.q (Fw.val_move rfl) rfl ?_
          refine Fw.gFQ (d := 35) rfl rfl rfl rfl ?_
          refine Fw.gFQ (d := 35) rfl rfl rfl rfl ?_
          refine Fw.gFQ (d := 35) rfl rfl rfl rfl ?_
          refine Fw.q (Fw.val_pickT rfl rfl) rfl ?_
          refine Fw.q (Fw.val_move rfl) rfl ?_
          refine Fw.gFQ (d := 40) rfl rfl rfl rfl ?_
          refine Fw.gFQ (d := 40) rfl rfl rfl rfl ?_
          refine Fw.gFQ (d := 40) rfl rfl rfl rfl ?_
          refine Fw.gFQ (d := 40) rfl rfl rfl rfl ?_
          refine Fw.gFQ (d := 40) rfl rfl rfl rfl ?_
          refine Fw.gFQ (d := 40) rfl rfl rfl rfl ?_
          refine Fw.gFQ (d := 40) rfl rfl rfl rfl ?_
          refine Fw.gFQ (d := 40) rfl rfl rfl rfl ?_
          refine Fw.gFQ (d := 40) rfl rfl rfl rfl ?_
          refine Fw.gFQ (d := 40) rfl rfl rfl rfl ?_
          refine Fw.q (Fw.val_pickT rfl rfl) rfl ?_
          refine Fw.q (Fw.val_move rfl) rfl ?_
          refine Fw.gFQ (d := 52) rfl rfl rfl rfl ?_
          refine Fw.gFQ (d := 52) rfl rfl rfl rfl ?_
          refine Fw.q (Fw.val_pickT rfl rfl) rfl ?_
          refine Fw.q (Fw.val_move rfl) rfl ?_
          refine Fw.gFQ (d := 56) rfl rfl rfl rfl ?_
          refine Fw.gFQ (d := 56) rfl rfl rfl rfl ?_
          refine Fw.q (Fw.val_pickT rfl rfl) rfl ?_
          refine Fw.q (Fw.val_move rfl) rfl ?_
          refine Fw.gFQ (d := 60) rfl rfl rfl rfl ?_
          refine Fw.gFQ (d := 60) rfl rfl rfl rfl ?_
          refine Fw.gFQ (d := 60) rfl rfl rfl rfl ?_
          refine Fw.gFQ (d := 60) rfl rfl rfl rfl ?_
          refine Fw.gFQ (d := 60) rfl rfl rfl rfl ?_
          refine Fw.gFQ (d := 60) rfl rfl rfl rfl ?_
          refine Fw.gFQ (d := 60) rfl rfl rfl rfl ?_
          refine Fw.gFQ (d := 60) rfl rfl rfl rfl ?_
          refine Fw.q (Fw.val_pickT rfl rfl) rfl ?_
          refine Fw.nilQ ?_
          intro w30 hb
          replace HSb := HSb.low hb
          replace HB := HB.trans (hb.mono HB.size)
          clear hb
          refine hK3 _ _ (Fw.FC.sub (f' := [(69, _), (5, _), (0, _), (2, _), (3, _)]) (.cons rfl (.cons rfl (.cons rfl (.cons rfl (.cons rfl .nil))))) ?_)
          refine Fw.condT rfl ?_
          refine Fw.seq fun _ hK49 => ?_
          refine Fw.region ?_
          refine Fw.s (Fw.val_move rfl) rfl ?_
          refine Fw.s (Fw.val_assign rfl) rfl ?_
          refine Fw.s (Fw.val_assign rfl) rfl ?_
          refine Fw.s (Fw.val_assign rfl) rfl ?_
          refine Fw.nil ?_
          refine hK49 _ _ ?_
          refine Fw.ret ?_
          refine Fw.X_ret ?_
          refine Fw.ret_ [.tmp 8, .tmp 9, .tmp 10] [_, _, _] Try.results32 (.tmp rfl (.tmp rfl (.tmp rfl .nil))) ?_
          have hf : Us.repB l[i] s = false := by unfold Us.repB; rw [k3]; rfl
          have hE : Us.repE l s now e = 1 := by unfold Us.repE; rw [hth, hg]; simp [hf]
          have hL : Us.repL l s now e = l := by unfold Us.repL; rw [hE]; rfl
          have hG : Us.repGone l s now e = false := by unfold Us.repGone; rw [hE]; rfl
          rw [hE, hL, hG]
          exact ⟨_, _, rfl, h.low HB, HB⟩
      · rintro k2
        refine Fw.gTQ (d := 23) rfl rfl ?_
        refine Fw.q (Fw.val_not rfl) rfl ?_
        refine Fw.q (Fw.val_pickF rfl rfl) rfl ?_
        refine Fw.q (Fw.val_move rfl) rfl ?_
        refine Fw.gFQ (d := 29) rfl rfl rfl rfl ?_
        refine Fw.gFQ (d := 29) rfl rfl rfl rfl ?_
        refine Fw.gFQ (d := 29) rfl rfl rfl rfl ?_
        refine Fw.gFQ (d := 29) rfl rfl rfl rfl ?_
        refine Fw.q (Fw.val_pickT rfl rfl) rfl ?_
        refine Fw.q (Fw.val_move rfl) rfl ?_
        refine Fw.gFQ (d := 35) rfl rfl rfl rfl ?_
        refine Fw.gFQ (d := 35) rfl rfl rfl rfl ?_
        refine Fw.gFQ (d := 35) rfl rfl rfl rfl ?_
        refine Fw.q (Fw.val_pickT rfl rfl) rfl ?_
        refine Fw.q (Fw.val_move rfl) rfl ?_
        refine Fw.gFQ (d := 40) rfl rfl rfl rfl ?_
        refine Fw.gFQ (d := 40) rfl rfl rfl rfl ?_
        refine Fw.gFQ (d := 40) rfl rfl rfl rfl ?_
        refine Fw.gFQ (d := 40) rfl rfl rfl rfl ?_
        refine Fw.gFQ (d := 40) rfl rfl rfl rfl ?_
        refine Fw.gFQ (d := 40) rfl rfl rfl rfl ?_
        refine Fw.gFQ (d := 40) rfl rfl rfl rfl ?_
        refine Fw.gFQ (d := 40) rfl rfl rfl rfl ?_
        refine Fw.gFQ (d := 40) rfl rfl rfl rfl ?_
        refine Fw.gFQ (d := 40) rfl rfl rfl rfl ?_
        refine Fw.q (Fw.val_pickT rfl rfl) rfl ?_
        refine Fw.q (Fw.val_move rfl) rfl ?_
        refine Fw.gFQ (d := 52) rfl rfl rfl rfl ?_
        refine Fw.gFQ (d := 52) rfl rfl rfl rfl ?_
        refine Fw.q (Fw.val_pickT rfl rfl) rfl ?_
        refine Fw.q (Fw.val_move rfl) rfl ?_
        refine Fw.gFQ (d := 56) rfl rfl rfl rfl ?_
        refine Fw.gFQ (d := 56) rfl rfl rfl rfl ?_
        refine Fw.q (Fw.val_pickT rfl rfl) rfl ?_
        refine Fw.q (Fw.val_move rfl) rfl ?_
        refine Fw.gFQ (d := 60) rfl rfl rfl rfl ?_
        refine Fw.gFQ (d := 60) rfl rfl rfl rfl ?_
        refine Fw.gFQ (d := 60) rfl rfl rfl rfl ?_
        refine Fw.gFQ (d := 60) rfl rfl rfl rfl ?_
        refine Fw.gFQ (d := 60) rfl rfl rfl rfl ?_
        refine Fw.gFQ (d := 60) rfl rfl rfl rfl ?_
        refine Fw.gFQ (d := 60) rfl rfl rfl rfl ?_
        refine Fw.gFQ (d := 60) rfl rfl rfl rfl ?_
        refine Fw.q (Fw.val_pickT rfl rfl) rfl ?_
        refine Fw.nilQ ?_
        intro w31 hb
        replace HSb := HSb.low hb
        replace HB := HB.trans (hb.mono HB.size)
        clear hb
        refine hK3 _ _ (Fw.FC.sub (f' := [(69, _), (5, _), (0, _), (2, _), (3, _)]) (.cons rfl (.cons rfl (.cons rfl (.cons rfl (.cons rfl .nil))))) ?_)
        refine Fw.condT rfl ?_
        refine Fw.seq fun _ hK50 => ?_
        refine Fw.region ?_
        refine Fw.s (Fw.val_move rfl) rfl ?_
        refine Fw.s (Fw.val_assign rfl) rfl ?_
        refine Fw.s (Fw.val_assign rfl) rfl ?_
        refine Fw.s (Fw.val_assign rfl) rfl ?_
        refine Fw.nil ?_
        refine hK50 _ _ ?_
        refine Fw.ret ?_
        refine Fw.X_ret ?_
        refine Fw.ret_ [.tmp 8, .tmp 9, .tmp 10] [_, _, _] Try.results32 (.tmp rfl (.tmp rfl (.tmp rfl .nil))) ?_
        have hf : Us.repB l[i] s = false := by unfold Us.repB; rw [k2]; simp
        have hE : Us.repE l s now e = 1 := by unfold Us.repE; rw [hth, hg]; simp [hf]
        have hL : Us.repL l s now e = l := by unfold Us.repL; rw [hE]; rfl
        have hG : Us.repGone l s now e = false := by unfold Us.repGone; rw [hE]; rfl
        rw [hE, hL, hG]
        exact ⟨_, _, rfl, h.low HB, HB⟩
  | false =>
    refine Fw.calls Try.func32 rfl Try.ntmps32 rfl ?_
    have HB := Below.refl (w.heap.size) w
    refine Fw.seq fun _ hK1 => ?_
    refine Fw.region ?_
    refine Fw.box rfl rfl ?_
    intro w1 gSb egSb HSb hb
    have lgSb : w.heap.size ≤ gSb := by have := HB.size; omega
    replace HB := HB.trans (hb.mono HB.size)
    clear hb
    clear egSb
    refine Fw.s (Fw.val_assign rfl) rfl ?_
    refine Fw.s (Fw.val_assign rfl) rfl ?_
    refine Fw.s (Fw.val_assign rfl) rfl ?_
    refine Fw.nil ?_
    refine hK1 _ _ ?_
    refine Fw.seq fun _ hK2 => ?_
    refine Fw.seq fun _ hK3 => ?_
    refine Fw.regionQ (by kernel_rfl) (by kernel_rfl) ?_
    refine Fw.q (Fw.val_move rfl) rfl ?_
    refine Fw.q (Fw.val_fieldAddr fl45_0 rfl rfl) rfl ?_
    refine Fw.ldQ sc3 rfl (HSb.cell 0) rfl ?_
    refine Fw.callQ cf49 rfl rfl (fun w_ hb_ => rthere_any _ A l c _) (fun _ _ _ h => ⟨h.1, h.2 ▸ Below.refl _ _⟩) ?_
    refine Fw.bFQ (by exact hth) ?_
    refine Fw.q (Fw.val_not rfl) rfl ?_
    refine Fw.q (Fw.val_move rfl) rfl ?_
    refine Fw.gFQ (d := 18) rfl rfl rfl rfl ?_
    refine Fw.gFQ (d := 18) rfl rfl rfl rfl ?_
    refine Fw.gFQ (d := 18) rfl rfl rfl rfl ?_
    refine Fw.q (Fw.val_pickT rfl rfl) rfl ?_
    refine Fw.q (Fw.val_move rfl) rfl ?_
    refine Fw.gFQ (d := 23) rfl rfl rfl rfl ?_
    refine Fw.gFQ (d := 23) rfl rfl rfl rfl ?_
    refine Fw.gFQ (d := 23) rfl rfl rfl rfl ?_
    refine Fw.gFQ (d := 23) rfl rfl rfl rfl ?_
    refine Fw.q (Fw.val_pickT rfl rfl) rfl ?_
    refine Fw.q (Fw.val_move rfl) rfl ?_
    refine Fw.gFQ (d := 29) rfl rfl rfl rfl ?_
    refine Fw.gFQ (d := 29) rfl rfl rfl rfl ?_
    refine Fw.gFQ (d := 29) rfl rfl rfl rfl ?_
    refine Fw.gFQ (d := 29) rfl rfl rfl rfl ?_
    refine Fw.q (Fw.val_pickT rfl rfl) rfl ?_
    refine Fw.q (Fw.val_move rfl) rfl ?_
    refine Fw.gFQ (d := 35) rfl rfl rfl rfl ?_
    refine Fw.gFQ (d := 35) rfl rfl rfl rfl ?_
    refine Fw.gFQ (d := 35) rfl rfl rfl rfl ?_
    refine Fw.q (Fw.val_pickT rfl rfl) rfl ?_
    refine Fw.q (Fw.val_move rfl) rfl ?_
    refine Fw.gFQ (d := 40) rfl rfl rfl rfl ?_
    refine Fw.gFQ (d := 40) rfl rfl rfl rfl ?_
    refine Fw.gFQ (d := 40) rfl rfl rfl rfl ?_
    refine Fw.gFQ (d := 40) rfl rfl rfl rfl ?_
    refine Fw.gFQ (d := 40) rfl rfl rfl rfl ?_
    refine Fw.gFQ (d := 40) rfl rfl rfl rfl ?_
    refine Fw.gFQ (d := 40) rfl rfl rfl rfl ?_
    refine Fw.gFQ (d := 40) rfl rfl rfl rfl ?_
    refine Fw.gFQ (d := 40) rfl rfl rfl rfl ?_
    refine Fw.gFQ (d := 40) rfl rfl rfl rfl ?_
    refine Fw.q (Fw.val_pickT rfl rfl) rfl ?_
    refine Fw.q (Fw.val_move rfl) rfl ?_
    refine Fw.gFQ (d := 52) rfl rfl rfl rfl ?_
    refine Fw.gFQ (d := 52) rfl rfl rfl rfl ?_
    refine Fw.q (Fw.val_pickT rfl rfl) rfl ?_
    refine Fw.q (Fw.val_move rfl) rfl ?_
    refine Fw.gFQ (d := 56) rfl rfl rfl rfl ?_
    refine Fw.gFQ (d := 56) rfl rfl rfl rfl ?_
    refine Fw.q (Fw.val_pickT rfl rfl) rfl ?_
    refine Fw.q (Fw.val_move rfl) rfl ?_
    refine Fw.gFQ (d := 60) rfl rfl rfl rfl ?_
    refine Fw.gFQ (d := 60) rfl rfl rfl rfl ?_
    refine Fw.gFQ (d := 60) rfl rfl rfl rfl ?_
    refine Fw.gFQ (d := 60) rfl rfl rfl rfl ?_
    refine Fw.gFQ (d := 60) rfl rfl rfl rfl ?_
    refine Fw.gFQ (d := 60) rfl rfl rfl rfl ?_
    refine Fw.gFQ (d := 60) rfl rfl rfl rfl ?_
    refine Fw.gFQ (d := 60) rfl rfl rfl rfl ?_
    refine Fw.q (Fw.val_pickT rfl rfl) rfl ?_
    refine Fw.nilQ ?_
    intro w2 hb
    replace HSb := HSb.low hb
    replace HB := HB.trans (hb.mono HB.size)
    clear hb
    refine hK3 _ _ (Fw.FC.sub (f' := [(69, _), (5, _), (0, _), (2, _), (3, _)]) (.cons rfl (.cons rfl (.cons rfl (.cons rfl (.cons rfl .nil))))) ?_)
    refine Fw.condT rfl ?_
    refine Fw.seq fun _ hK4 => ?_
    refine Fw.region ?_
    refine Fw.s (Fw.val_move rfl) rfl ?_
    refine Fw.s (Fw.val_assign rfl) rfl ?_
    refine Fw.s (Fw.val_assign rfl) rfl ?_
    refine Fw.s (Fw.val_assign rfl) rfl ?_
    refine Fw.nil ?_
    refine hK4 _ _ ?_
    refine Fw.ret ?_
    refine Fw.X_ret ?_
    refine Fw.ret_ [.tmp 8, .tmp 9, .tmp 10] [_, _, _] Try.results32 (.tmp rfl (.tmp rfl (.tmp rfl .nil))) ?_
    have hE : Us.repE l s now e = 1 := by unfold Us.repE; rw [hth]; simp
    have hL : Us.repL l s now e = l := by unfold Us.repL; rw [hE]; rfl
    have hG : Us.repGone l s now e = false := by unfold Us.repGone; rw [hE]; rfl
    rw [hE, hL, hG]
    exact ⟨_, _, rfl, h.low HB, HB⟩

end Go.Proofs.Ytmohhociomghhaa
