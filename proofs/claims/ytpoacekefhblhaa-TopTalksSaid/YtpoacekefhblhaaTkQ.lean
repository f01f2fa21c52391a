/- TopTalks: the law, walked. -/
import Derived.Test.YtpoacekefhblhaaTkP
namespace Go.Proofs.Ytpoacekefhblhaa
set_option linter.unusedSimpArgs false
set_option linter.unusedVariables false
open Go.RowKit

set_option maxRecDepth 100000 in
set_option maxHeartbeats 1000000 in
theorem tawake_any (w : World) : Calls Try.prog 4 #[] w fun e_ w' => e_ = .returned (.bool true) ∧ w = w' := by
  refine Fw.calls Try.func4 rfl Try.ntmps4 rfl ?_
  refine Fw.seq fun _ hK1 => ?_
  refine Fw.region ?_
  refine Fw.s (Fw.val_assign rfl) rfl ?_
  refine Fw.nil ?_
  refine hK1 _ _ ?_
  refine Fw.seq fun _ hK2 => ?_
  refine Fw.region ?_
  refine Fw.call cf16 rfl rfl (sum_any none [] 0 _ (Rd.nil _ _) (by decide)) ?_
  rintro e_ _ ⟨rfl, rfl⟩
  refine ⟨_, rfl, ?_⟩
  refine Fw.s (Fw.Val.T (Fw.val_bin rfl rfl Fw.b_neq) (by decide)) rfl ?_
  refine Fw.s (Fw.val_assign rfl) rfl ?_
  refine Fw.nil ?_
  refine hK2 _ _ ?_
  refine Fw.ret ?_
  refine Fw.ret_ [.tmp 0] [_] Try.results4 (.tmp rfl .nil) ?_
  exact ⟨rfl, rfl⟩

set_option maxRecDepth 100000 in
set_option maxHeartbeats 1000000 in
theorem talksNo_any (w : World) (nm : ByteArray) (ver : Int) (Tq : Option Addr) (qs : List Tk.Qu) (cq : Nat) (hq : Tk.QsAt w Tq qs) (Sa : Option Addr) (sd : List Int) (sc : Nat) (hsd : Rd w Sa (sd.map (.int .u8))) (hby : ∀ x ∈ sd, 0 ≤ x ∧ x < 256) (Ba : Option Addr) (bk : List Bool) (bc : Nat) (hbk : Rd w Ba (bk.map .bool)) (hng : ¬ Tk.Good nm ver qs) : Calls Try.prog 3 #[.agg #[.string nm, .int .i64 ver, .slice Tq qs.length cq], .slice Sa sd.length sc, .slice Ba bk.length bc] w fun e_ w' => e_ = .returned (.bool true) ∧ Below w.heap.size w w' := by
  refine Fw.calls Try.func3 rfl Try.ntmps3 rfl ?_
  have HB := Below.refl (w.heap.size) w
  refine Fw.seq fun _ hK1 => ?_
  refine Fw.region ?_
  refine Fw.box rfl rfl ?_
  intro w1 gt egt Ht hb
  have lgt : w.heap.size ≤ gt := by have := HB.size; omega
  replace HB := HB.trans (hb.mono HB.size)
  clear hb
  clear egt
  refine Fw.s (Fw.val_assign rfl) rfl ?_
  refine Fw.nil ?_
  refine hK1 _ _ ?_
  refine Fw.seq fun _ hK2 => ?_
  refine Fw.seq fun _ hK3 => ?_
  refine Fw.region ?_
  refine Fw.call cf4 rfl rfl (tawake_any _) ?_
  rintro e_ _ ⟨rfl, rfl⟩
  refine ⟨_, rfl, ?_⟩
  refine Fw.s (Fw.val_not rfl) rfl ?_
  refine Fw.nil ?_
  refine hK3 _ _ ?_
  refine Fw.condF rfl ?_
  refine Fw.skip ?_
  refine hK2 _ _ ?_
  refine Fw.seq fun _ hK4 => ?_
  refine Fw.seq fun _ hK5 => ?_
  refine Fw.region ?_
  refine Fw.s (Fw.val_fieldAddr fl24_2 rfl rfl) rfl ?_
  refine Fw.ld sc22 rfl (Ht.cell 2) rfl ?_
  refine Fw.s (Fw.val_len Try.underlying22 rfl) rfl ?_
  refine Fw.s2 (Fw.val_bin rfl rfl Fw.b_gtr) rfl ?_ ?_
  · rintro hQ8
    refine Fw.s (Fw.val_move rfl) rfl ?_
    refine Fw.gF (d := 42) rfl rfl rfl rfl ?_
    refine Fw.gF (d := 42) rfl rfl rfl rfl ?_
    refine Fw.gF (d := 42) rfl rfl rfl rfl ?_
    refine Fw.s (Fw.val_pickT rfl rfl) rfl ?_
    refine Fw.nil ?_
    refine hK5 _ _ (Fw.FC.sub (f' := [(46, _), (3, _), (1, _), (2, _)]) (.cons rfl (.cons rfl (.cons rfl (.cons rfl .nil)))) ?_)
    refine Fw.condT rfl ?_
    refine Fw.seq fun _ hK7 => ?_
    refine Fw.region ?_
    refine Fw.s (Fw.val_assign rfl) rfl ?_
    refine Fw.nil ?_
    refine hK7 _ _ ?_
    refine Fw.ret ?_
    refine Fw.X_ret ?_
    refine Fw.ret_ [.tmp 6] [_] Try.results3 (.tmp rfl .nil) ?_
    exact ⟨rfl, HB⟩
  · rintro hQ8
    refine Fw.s (Fw.val_move rfl) rfl ?_
    refine Fw.gT (d := 42) rfl rfl ?_
    refine Fw.s (Fw.val_move rfl) rfl ?_
    refine Fw.gT (d := 42) rfl rfl ?_
    refine Fw.s (Fw.val_len Try.underlying25 rfl) rfl ?_
    refine Fw.gT (d := 42) rfl rfl ?_
    refine Fw.s2 (Fw.val_bin rfl rfl Fw.b_gtr) rfl ?_ ?_
    · rintro hS40
      refine Fw.s (Fw.val_pickF rfl rfl) rfl ?_
      refine Fw.nil ?_
      refine hK5 _ _ (Fw.FC.sub (f' := [(46, _), (3, _), (1, _), (2, _)]) (.cons rfl (.cons rfl (.cons rfl (.cons rfl .nil)))) ?_)
      refine Fw.condT rfl ?_
      refine Fw.seq fun _ hK9 => ?_
      refine Fw.region ?_
      refine Fw.s (Fw.val_assign rfl) rfl ?_
      refine Fw.nil ?_
      refine hK9 _ _ ?_
      refine Fw.ret ?_
      refine Fw.X_ret ?_
      refine Fw.ret_ [.tmp 6] [_] Try.results3 (.tmp rfl .nil) ?_
      exact ⟨rfl, HB⟩
    · rintro hS40
      refine Fw.s (Fw.val_pickF rfl rfl) rfl ?_
      refine Fw.nil ?_
      refine hK5 _ _ (Fw.FC.sub (f' := [(46, _), (3, _), (1, _), (2, _)]) (.cons rfl (.cons rfl (.cons rfl (.cons rfl .nil)))) ?_)
      refine Fw.condF rfl ?_
      refine Fw.skip ?_
      refine hK4 _ _ ?_
      refine Fw.seq fun _ hK10 => ?_
      refine Fw.seq fun _ hK11 => ?_
      refine Fw.region ?_
      refine Fw.s (Fw.val_fieldAddr fl24_2 rfl rfl) rfl ?_
      refine Fw.ld sc22 rfl (Ht.cell 2) rfl ?_
      refine Fw.s (Fw.val_len Try.underlying22 rfl) rfl ?_
      refine Fw.s (Fw.val_move rfl) rfl ?_
      refine Fw.nil ?_
      refine hK11 _ _ ?_
      refine Fw.block ?_
      refine Fw.loop (fun m_ f_ W_ => ∃ (k : Nat), m_ = qs.length - k ∧ k ≤ qs.length ∧ (∀ q ∈ qs.take k, q.an.length ≤ 8) ∧ Blk W_ gt 24 #[.string nm, .int .i64 ver, .slice Tq qs.length cq] ∧ Below (w.heap.size) w W_ ∧ f_ = [(50, .int .i64 k), (49, .int .i64 qs.length), (48, .slice Tq qs.length cq), (3, .pointer (some ⟨gt, 0, none⟩)), (1, .slice Sa sd.length sc), (2, .slice Ba bk.length bc)]) ⟨_, _, ⟨0, rfl, Nat.zero_le _, (fun q h => by cases h), Ht, HB, rfl⟩, (.cons rfl (.cons rfl (.cons rfl (.cons rfl (.cons rfl (.cons rfl .nil))))))⟩ ?_
      clear Ht HB
      rintro m12_ _ w2 ⟨k, hm12_, hk, h8, Ht, HB, rfl⟩
      refine Fw.seq fun _ hK13 => ?_
      refine Fw.region ?_
      refine Fw.s2 (Fw.val_bin rfl rfl Fw.b_lss) rfl ?_ ?_
      · rintro hlt
        refine Fw.nil ?_
        refine hK13 _ _ ?_
        refine Fw.seq fun _ hK15 => ?_
        refine Fw.condT rfl ?_
        refine Fw.skip ?_
        refine hK15 _ _ ?_
        refine Fw.seq fun _ hK16 => ?_
        refine Fw.block ?_
        refine Fw.seq fun _ hK17 => ?_
        have hk2 : k < qs.length := by omega
        obtain ⟨ad, b_, o_, hA, hadd, HQe⟩ := Fw.rdAt Tk.Qu.len (by decide) hq.1 k hk2
        refine Fw.region ?_
        refine Fw.s (Fw.val_indexR Try.underlying22 sz30 rfl hA rfl rfl hk2 hadd) rfl ?_
        refine Fw.ldA ag30 rfl ((HQe.low HB)) rfl rfl ?_
        refine Fw.alloc ze30 rfl ?_
        intro w3 gq egq Hq hb
        have n_gt_gq : gt < gq := by have := Ht.lt; omega
        have lgq : w.heap.size ≤ gq := by have := HB.size; omega
        replace Ht := Ht.low hb
        replace HB := HB.trans (hb.mono HB.size)
        clear hb
        clear egq
        refine Fw.storeW sz30 rfl rfl Hq rfl rfl (by exact Fw.oneCells rfl) ?_
        intro w4 N_ hc
        replace Ht := Ht.chg hc (by omega)
        replace HB := HB.trans (hc.below (B := w.heap.size) (fun k e => by omega) HB.size)
        clear hc
        clear Hq
        have Hq := N_
        clear N_
        replace Hq : Blk w4 gq 30 #[.string qs[k].text, .slice qs[k].A qs[k].an.length qs[k].c] := Hq
        refine Fw.nil ?_
        refine hK17 _ _ ?_
        refine Fw.seq fun _ hK19 => ?_
        refine Fw.region ?_
        refine Fw.s (Fw.val_fieldAddr fl30_1 rfl rfl) rfl ?_
        refine Fw.ld sc28 rfl (Hq.cell 1) rfl ?_
        refine Fw.s (Fw.val_len Try.underlying28 rfl) rfl ?_
        refine Fw.s2 (Fw.val_bin rfl rfl Fw.b_gtr) rfl ?_ ?_
        · rintro h8b
          refine Fw.s (Fw.val_move rfl) rfl ?_
          refine Fw.gF (d := 58) rfl rfl rfl rfl ?_
          refine Fw.gF (d := 58) rfl rfl rfl rfl ?_
          refine Fw.gF (d := 58) rfl rfl rfl rfl ?_
          refine Fw.gF (d := 58) rfl rfl rfl rfl ?_
          refine Fw.s (Fw.val_pickT rfl rfl) rfl ?_
          refine Fw.nil ?_
          refine hK19 _ _ (Fw.FC.sub (f' := [(63, _), (62, _), (61, _), (60, _), (59, _), (50, _), (49, _), (48, _), (3, _), (1, _), (2, _)]) (.cons rfl (.cons rfl (.cons rfl (.cons rfl (.cons rfl (.cons rfl (.cons rfl (.cons rfl (.cons rfl (.cons rfl (.cons rfl .nil))))))))))) ?_)
          refine Fw.condT rfl ?_
          refine Fw.seq fun _ hK21 => ?_
          refine Fw.region ?_
          refine Fw.s (Fw.val_assign rfl) rfl ?_
          refine Fw.nil ?_
          refine hK21 _ _ (Fw.FC.sub (f' := [(6, _)]) (.cons rfl .nil) ?_)
          refine Fw.ret ?_
          refine Fw.X_blockR ?_
          refine Fw.X_ret ?_
          refine Fw.X_ret ?_
          refine Fw.X_blockR ?_
          refine Fw.X_ret ?_
          refine Fw.ret_ [.tmp 6] [_] Try.results3 (.tmp rfl .nil) ?_
          exact ⟨rfl, HB⟩
        · rintro h8b
          refine Fw.s (Fw.val_move rfl) rfl ?_
          refine Fw.gT (d := 58) rfl rfl ?_
          refine Fw.s (Fw.val_fieldAddr fl30_0 rfl rfl) rfl ?_
          refine Fw.gT (d := 58) rfl rfl ?_
          refine Fw.ld sc9 rfl (Hq.cell 0) rfl ?_
          refine Fw.gT (d := 58) rfl rfl ?_
          refine Fw.s (Fw.val_lenS Try.underlying9 rfl) rfl ?_
          refine Fw.gT (d := 58) rfl rfl ?_
          refine Fw.s2 (Fw.val_bin rfl rfl Fw.b_gtr) rfl ?_ ?_
          · rintro h300
            refine Fw.s (Fw.val_pickF rfl rfl) rfl ?_
            refine Fw.nil ?_
            refine hK19 _ _ (Fw.FC.sub (f' := [(63, _), (62, _), (61, _), (60, _), (59, _), (50, _), (49, _), (48, _), (3, _), (1, _), (2, _)]) (.cons rfl (.cons rfl (.cons rfl (.cons rfl (.cons rfl (.cons rfl (.cons rfl (.cons rfl (.cons rfl (.cons rfl (.cons rfl .nil))))))))))) ?_)
            refine Fw.condT rfl ?_
            refine Fw.seq fun _ hK23 => ?_
            refine Fw.region ?_
            refine Fw.s (Fw.val_assign rfl) rfl ?_
            refine Fw.nil ?_
            refine hK23 _ _ (Fw.FC.sub (f' := [(6, _)]) (.cons rfl .nil) ?_)
            refine Fw.ret ?_
            refine Fw.X_blockR ?_
            refine Fw.X_ret ?_
            refine Fw.X_ret ?_
            refine Fw.X_blockR ?_
            refine Fw.X_ret ?_
            refine Fw.ret_ [.tmp 6] [_] Try.results3 (.tmp rfl .nil) ?_
            exact ⟨rfl, HB⟩
          · rintro h300
            refine Fw.s (Fw.val_pickF rfl rfl) rfl ?_
            refine Fw.nil ?_
            refine hK19 _ _ (Fw.FC.sub (f' := [(63, _), (62, _), (61, _), (60, _), (59, _), (50, _), (49, _), (48, _), (3, _), (1, _), (2, _)]) (.cons rfl (.cons rfl (.cons rfl (.cons rfl (.cons rfl (.cons rfl (.cons rfl (.cons rfl (.cons rfl (.cons rfl (.cons rfl .nil))))))))))) ?_)
            refine Fw.condF rfl ?_
            refine Fw.skip ?_
            refine Fw.X_blockN ?_
            refine hK16 _ _ ?_
            refine Fw.region ?_
            refine Fw.s (Fw.val_bin rfl rfl (Fw.b_add (Fw.i64_ok (by omega)))) rfl ?_
            refine Fw.s (Fw.val_move rfl) rfl ?_
            refine Fw.nil ?_
            refine Fw.roundEnd _ _ (by omega) ⟨k + 1, rfl, by omega, Tk.all_take hk2 h8 (by omega), Ht, HB, rfl⟩ (.cons rfl (.cons rfl (.cons rfl (.cons rfl (.cons rfl (.cons rfl .nil))))))
      · rintro hlt
        refine Fw.nil ?_
        refine hK13 _ _ ?_
        refine Fw.seq fun _ hK24 => ?_
        refine Fw.condF rfl ?_
        refine Fw.exit ?_
        refine Fw.X_exit ?_
        refine Fw.X_exit ?_
        refine Fw.X_block ?_
        refine hK10 _ _ ?_
        refine Fw.seq fun _ hK25 => ?_
        rw [List.take_of_length_le (by omega)] at h8
        have ha : ∀ q ∈ qs, q.an.length ≤ 16 := fun q h => by have := h8 q h; omega
        have hql : qs.length ≤ 64 := by omega
        refine Fw.region ?_
        refine Fw.ldA ag24 rfl (Fw.rdBlk Ht) rfl rfl ?_
        refine Fw.call cf5 rfl rfl (validate_any _ nm ver Tq qs cq (by omega) (hq.low HB)) ?_
        rintro e_ w5 ⟨i1, e1, rfl, h1, hb⟩
        refine ⟨_, rfl, ?_⟩
        replace Ht := Ht.low hb
        replace HB := HB.trans (hb.mono HB.size)
        clear hb
        refine Fw.s (Fw.val_move rfl) rfl ?_
        refine Fw.s (Fw.val_extract rfl rfl) rfl ?_
        refine Fw.s (Fw.val_extract rfl rfl) rfl ?_
        refine Fw.s (Fw.val_assign rfl) rfl ?_
        refine Fw.s (Fw.val_assign rfl) rfl ?_
        refine Fw.nil ?_
        refine hK25 _ _ (Fw.FC.sub (f' := [(10, _), (3, _), (1, _), (2, _)]) (.cons rfl (.cons rfl (.cons rfl (.cons rfl .nil)))) ?_)
        refine Fw.seq fun _ hK26 => ?_
        refine Fw.region ?_
        refine Fw.ldA ag24 rfl (Fw.rdBlk Ht) rfl rfl ?_
        refine Fw.call cf6 rfl rfl (check_any _ nm ver Tq qs cq (hq.low HB) hql ha) ?_
        rintro e_ w6 ⟨i2, e2, rfl, h2, hb⟩
        refine ⟨_, rfl, ?_⟩
        replace Ht := Ht.low hb
        replace HB := HB.trans (hb.mono HB.size)
        clear hb
        refine Fw.s (Fw.val_move rfl) rfl ?_
        refine Fw.s (Fw.val_extract rfl rfl) rfl ?_
        refine Fw.s (Fw.val_extract rfl rfl) rfl ?_
        refine Fw.s (Fw.val_assign rfl) rfl ?_
        refine Fw.s (Fw.val_assign rfl) rfl ?_
        refine Fw.nil ?_
        refine hK26 _ _ ?_
        refine Fw.seq fun _ hK27 => ?_
        refine Fw.region ?_
        refine Fw.ldA ag24 rfl (Fw.rdBlk Ht) rfl rfl ?_
        refine Fw.call cf7 rfl rfl (new_any _ nm ver Tq qs cq (hq.low HB) hql ha) ?_
        rintro e_ w7 ⟨pt, e3, rfl, hnew, hb⟩
        refine ⟨_, rfl, ?_⟩
        obtain ⟨_, rfl, hc3⟩ := hnew.resolve_right (fun h => hng h.1)
        replace Ht := Ht.low hb
        replace HB := HB.trans (hb.mono HB.size)
        clear hb
        refine Fw.s (Fw.val_move rfl) rfl ?_
        refine Fw.s (Fw.val_extract rfl rfl) rfl ?_
        refine Fw.s (Fw.val_extract rfl rfl) rfl ?_
        refine Fw.s (Fw.val_assign rfl) rfl ?_
        refine Fw.s (Fw.val_assign rfl) rfl ?_
        refine Fw.nil ?_
        refine hK27 _ _ (Fw.FC.sub (f' := [(14, _), (13, _), (12, _), (10, _), (3, _), (1, _), (2, _)]) (.cons rfl (.cons rfl (.cons rfl (.cons rfl (.cons rfl (.cons rfl (.cons rfl .nil))))))) ?_)
        refine Fw.seq fun _ hK28 => ?_
        refine Fw.seq fun _ hK29 => ?_
        refine Fw.region ?_
        refine Fw.s (Fw.val_move rfl) rfl ?_
        refine Fw.s2 (Fw.val_bin rfl rfl Fw.b_neq) rfl ?_ ?_
        · rintro hv1
          refine Fw.s (Fw.val_move rfl) rfl ?_
          refine Fw.gF (d := 82) rfl rfl rfl rfl ?_
          refine Fw.gF (d := 82) rfl rfl rfl rfl ?_
          refine Fw.s (Fw.val_pickT rfl rfl) rfl ?_
          refine Fw.nil ?_
          refine hK29 _ _ (Fw.FC.sub (f' := [(85, _), (14, _), (13, _), (3, _), (1, _), (2, _)]) (.cons rfl (.cons rfl (.cons rfl (.cons rfl (.cons rfl (.cons rfl .nil)))))) ?_)
          refine Fw.condT rfl ?_
          refine Fw.seq fun _ hK31 => ?_
          refine Fw.region ?_
          refine Fw.s (Fw.val_move rfl) rfl ?_
          refine Fw.s (Fw.Val.T (Fw.val_bin rfl rfl Fw.b_neq) (by exact hc3)) rfl ?_
          refine Fw.s (Fw.val_move rfl) rfl ?_
          refine Fw.gT (d := 88) rfl rfl ?_
          refine Fw.s (Fw.val_move rfl) rfl ?_
          refine Fw.gT (d := 88) rfl rfl ?_
          refine Fw.s (Fw.val_bin rfl rfl (Fw.b_nilP Try.underlying34)) rfl ?_
          refine Fw.s (Fw.val_pickT rfl rfl) rfl ?_
          refine Fw.s (Fw.val_assign rfl) rfl ?_
          refine Fw.nil ?_
          refine hK31 _ _ (Fw.FC.sub (f' := [(6, _)]) (.cons rfl .nil) ?_)
          refine Fw.ret ?_
          refine Fw.X_ret ?_
          refine Fw.ret_ [.tmp 6] [_] Try.results3 (.tmp rfl .nil) ?_
          exact ⟨rfl, HB⟩
        · rintro hv1
          refine Fw.s (Fw.val_move rfl) rfl ?_
          refine Fw.gT (d := 82) rfl rfl ?_
          refine Fw.s (Fw.val_move rfl) rfl ?_
          refine Fw.gT (d := 82) rfl rfl ?_
          refine Fw.s (Fw.Val.T (Fw.val_bin rfl rfl Fw.b_neq) (by exact fun h_ => hng (h2.1 h_))) rfl ?_
          refine Fw.s (Fw.val_pickF rfl rfl) rfl ?_
          refine Fw.nil ?_
          refine hK29 _ _ (Fw.FC.sub (f' := [(85, _), (14, _), (13, _), (3, _), (1, _), (2, _)]) (.cons rfl (.cons rfl (.cons rfl (.cons rfl (.cons rfl (.cons rfl .nil)))))) ?_)
          refine Fw.condT rfl ?_
          refine Fw.seq fun _ hK32 => ?_
          refine Fw.region ?_
          refine Fw.s (Fw.val_move rfl) rfl ?_
          refine Fw.s (Fw.Val.T (Fw.val_bin rfl rfl Fw.b_neq) (by exact hc3)) rfl ?_
          refine Fw.s (Fw.val_move rfl) rfl ?_
          refine Fw.gT (d := 88) rfl rfl ?_
          refine Fw.s (Fw.val_move rfl) rfl ?_
          refine Fw.gT (d := 88) rfl rfl ?_
          refine Fw.s (Fw.val_bin rfl rfl (Fw.b_nilP Try.underlying34)) rfl ?_
          refine Fw.s (Fw.val_pickT rfl rfl) rfl ?_
          refine Fw.s (Fw.val_assign rfl) rfl ?_
          refine Fw.nil ?_
          refine hK32 _ _ (Fw.FC.sub (f' := [(6, _)]) (.cons rfl .nil) ?_)
          refine Fw.ret ?_
          refine Fw.X_ret ?_
          refine Fw.ret_ [.tmp 6] [_] Try.results3 (.tmp rfl .nil) ?_
          exact ⟨rfl, HB⟩

set_option maxRecDepth 100000 in
set_option maxHeartbeats 4000000 in
theorem talksYes_any (w : World) (nm : ByteArray) (ver : Int) (Tq : Option Addr) (qs : List Tk.Qu) (cq : Nat) (hq : Tk.QsAt w Tq qs) (Sa : Option Addr) (sd : List Int) (sc : Nat) (hsd : Rd w Sa (sd.map (.int .u8))) (hby : ∀ x ∈ sd, 0 ≤ x ∧ x < 256) (Ba : Option Addr) (bk : List Bool) (bc : Nat) (hbk : Rd w Ba (bk.map .bool)) (hg : Tk.Good nm ver qs) : Calls Try.prog 3 #[.agg #[.string nm, .int .i64 ver, .slice Tq qs.length cq], .slice Sa sd.length sc, .slice Ba bk.length bc] w fun e_ w' => e_ = .returned (.bool true) ∧ Below w.heap.size w w' := by
  refine Fw.calls Try.func3 rfl Try.ntmps3 rfl ?_
  have HB := Below.refl (w.heap.size) w
  refine Fw.seq fun _ hK1 => ?_
  refine Fw.region ?_
  refine Fw.box rfl rfl ?_
  intro w1 gt egt Ht hb
  have lgt : w.heap.size ≤ gt := by have := HB.size; omega
  replace HB := HB.trans (hb.mono HB.size)
  clear hb
  clear egt
  refine Fw.s (Fw.val_assign rfl) rfl ?_
  refine Fw.nil ?_
  refine hK1 _ _ ?_
  refine Fw.seq fun _ hK2 => ?_
  refine Fw.seq fun _ hK3 => ?_
  refine Fw.region ?_
  refine Fw.call cf4 rfl rfl (tawake_any _) ?_
  rintro e_ _ ⟨rfl, rfl⟩
  refine ⟨_, rfl, ?_⟩
  refine Fw.s (Fw.val_not rfl) rfl ?_
  refine Fw.nil ?_
  refine hK3 _ _ ?_
  refine Fw.condF rfl ?_
  refine Fw.skip ?_
  refine hK2 _ _ ?_
  refine Fw.seq fun _ hK4 => ?_
  refine Fw.seq fun _ hK5 => ?_
  refine Fw.region ?_
  refine Fw.s (Fw.val_fieldAddr fl24_2 rfl rfl) rfl ?_
  refine Fw.ld sc22 rfl (Ht.cell 2) rfl ?_
  refine Fw.s (Fw.val_len Try.underlying22 rfl) rfl ?_
  refine Fw.s2 (Fw.val_bin rfl rfl Fw.b_gtr) rfl ?_ ?_
  · rintro hQ8
    refine Fw.s (Fw.val_move rfl) rfl ?_
    refine Fw.gF (d := 42) rfl rfl rfl rfl ?_
    refine Fw.gF (d := 42) rfl rfl rfl rfl ?_
    refine Fw.gF (d := 42) rfl rfl rfl rfl ?_
    refine Fw.s (Fw.val_pickT rfl rfl) rfl ?_
    refine Fw.nil ?_
    refine hK5 _ _ (Fw.FC.sub (f' := [(46, _), (3, _), (1, _), (2, _)]) (.cons rfl (.cons rfl (.cons rfl (.cons rfl .nil)))) ?_)
    refine Fw.condT rfl ?_
    refine Fw.seq fun _ hK7 => ?_
    refine Fw.region ?_
    refine Fw.s (Fw.val_assign rfl) rfl ?_
    refine Fw.nil ?_
    refine hK7 _ _ ?_
    refine Fw.ret ?_
    refine Fw.X_ret ?_
    refine Fw.ret_ [.tmp 6] [_] Try.results3 (.tmp rfl .nil) ?_
    exact ⟨rfl, HB⟩
  · rintro hQ8
    refine Fw.s (Fw.val_move rfl) rfl ?_
    refine Fw.gT (d := 42) rfl rfl ?_
    refine Fw.s (Fw.val_move rfl) rfl ?_
    refine Fw.gT (d := 42) rfl rfl ?_
    refine Fw.s (Fw.val_len Try.underlying25 rfl) rfl ?_
    refine Fw.gT (d := 42) rfl rfl ?_
    refine Fw.s2 (Fw.val_bin rfl rfl Fw.b_gtr) rfl ?_ ?_
    · rintro hS40
      refine Fw.s (Fw.val_pickF rfl rfl) rfl ?_
      refine Fw.nil ?_
      refine hK5 _ _ (Fw.FC.sub (f' := [(46, _), (3, _), (1, _), (2, _)]) (.cons rfl (.cons rfl (.cons rfl (.cons rfl .nil)))) ?_)
      refine Fw.condT rfl ?_
      refine Fw.seq fun _ hK9 => ?_
      refine Fw.region ?_
      refine Fw.s (Fw.val_assign rfl) rfl ?_
      refine Fw.nil ?_
      refine hK9 _ _ ?_
      refine Fw.ret ?_
      refine Fw.X_ret ?_
      refine Fw.ret_ [.tmp 6] [_] Try.results3 (.tmp rfl .nil) ?_
      exact ⟨rfl, HB⟩
    · rintro hS40
      refine Fw.s (Fw.val_pickF rfl rfl) rfl ?_
      refine Fw.nil ?_
      refine hK5 _ _ (Fw.FC.sub (f' := [(46, _), (3, _), (1, _), (2, _)]) (.cons rfl (.cons rfl (.cons rfl (.cons rfl .nil)))) ?_)
      refine Fw.condF rfl ?_
      refine Fw.skip ?_
      refine hK4 _ _ ?_
      refine Fw.seq fun _ hK10 => ?_
      refine Fw.seq fun _ hK11 => ?_
      refine Fw.region ?_
      refine Fw.s (Fw.val_fieldAddr fl24_2 rfl rfl) rfl ?_
      refine Fw.ld sc22 rfl (Ht.cell 2) rfl ?_
      refine Fw.s (Fw.val_len Try.underlying22 rfl) rfl ?_
      refine Fw.s (Fw.val_move rfl) rfl ?_
      refine Fw.nil ?_
      refine hK11 _ _ ?_
      refine Fw.block ?_
      refine Fw.loop (fun m_ f_ W_ => ∃ (k : Nat), m_ = qs.length - k ∧ k ≤ qs.length ∧ (∀ q ∈ qs.take k, q.an.length ≤ 8) ∧ Blk W_ gt 24 #[.string nm, .int .i64 ver, .slice Tq qs.length cq] ∧ Below (w.heap.size) w W_ ∧ f_ = [(50, .int .i64 k), (49, .int .i64 qs.length), (48, .slice Tq qs.length cq), (3, .pointer (some ⟨gt, 0, none⟩)), (1, .slice Sa sd.length sc), (2, .slice Ba bk.length bc)]) ⟨_, _, ⟨0, rfl, Nat.zero_le _, (fun q h => by cases h), Ht, HB, rfl⟩, (.cons rfl (.cons rfl (.cons rfl (.cons rfl (.cons rfl (.cons rfl .nil))))))⟩ ?_
      clear Ht HB
      rintro m12_ _ w2 ⟨k, hm12_, hk, h8, Ht, HB, rfl⟩
      refine Fw.seq fun _ hK13 => ?_
      refine Fw.region ?_
      refine Fw.s2 (Fw.val_bin rfl rfl Fw.b_lss) rfl ?_ ?_
      · rintro hlt
        refine Fw.nil ?_
        refine hK13 _ _ ?_
        refine Fw.seq fun _ hK15 => ?_
        refine Fw.condT rfl ?_
        refine Fw.skip ?_
        refine hK15 _ _ ?_
        refine Fw.seq fun _ hK16 => ?_
        refine Fw.block ?_
        refine Fw.seq fun _ hK17 => ?_
        have hk2 : k < qs.length := by omega
        obtain ⟨ad, b_, o_, hA, hadd, HQe⟩ := Fw.rdAt Tk.Qu.len (by decide) hq.1 k hk2
        refine Fw.region ?_
        refine Fw.s (Fw.val_indexR Try.underlying22 sz30 rfl hA rfl rfl hk2 hadd) rfl ?_
        refine Fw.ldA ag30 rfl ((HQe.low HB)) rfl rfl ?_
        refine Fw.alloc ze30 rfl ?_
        intro w3 gq egq Hq hb
        have n_gt_gq : gt < gq := by have := Ht.lt; omega
        have lgq : w.heap.size ≤ gq := by have := HB.size; omega
        replace Ht := Ht.low hb
        replace HB := HB.trans (hb.mono HB.size)
        clear hb
        clear egq
        refine Fw.storeW sz30 rfl rfl Hq rfl rfl (by exact Fw.oneCells rfl) ?_
        intro w4 N_ hc
        replace Ht := Ht.chg hc (by omega)
        replace HB := HB.trans (hc.below (B := w.heap.size) (fun k e => by omega) HB.size)
        clear hc
        clear Hq
        have Hq := N_
        clear N_
        replace Hq : Blk w4 gq 30 #[.string qs[k].text, .slice qs[k].A qs[k].an.length qs[k].c] := Hq
        refine Fw.nil ?_
        refine hK17 _ _ ?_
        refine Fw.seq fun _ hK19 => ?_
        refine Fw.region ?_
        refine Fw.s (Fw.val_fieldAddr fl30_1 rfl rfl) rfl ?_
        refine Fw.ld sc28 rfl (Hq.cell 1) rfl ?_
        refine Fw.s (Fw.val_len Try.underlying28 rfl) rfl ?_
        refine Fw.s2 (Fw.val_bin rfl rfl Fw.b_gtr) rfl ?_ ?_
        · rintro h8b
          refine Fw.s (Fw.val_move rfl) rfl ?_
          refine Fw.gF (d := 58) rfl rfl rfl rfl ?_
          refine Fw.gF (d := 58) rfl rfl rfl rfl ?_
          refine Fw.gF (d := 58) rfl rfl rfl rfl ?_
          refine Fw.gF (d := 58) rfl rfl rfl rfl ?_
          refine Fw.s (Fw.val_pickT rfl rfl) rfl ?_
          refine Fw.nil ?_
          refine hK19 _ _ (Fw.FC.sub (f' := [(63, _), (62, _), (61, _), (60, _), (59, _), (50, _), (49, _), (48, _), (3, _), (1, _), (2, _)]) (.cons rfl (.cons rfl (.cons rfl (.cons rfl (.cons rfl (.cons rfl (.cons rfl (.cons rfl (.cons rfl (.cons rfl (.cons rfl .nil))))))))))) ?_)
          refine Fw.condT rfl ?_
          refine Fw.seq fun _ hK21 => ?_
          refine Fw.region ?_
          refine Fw.s (Fw.val_assign rfl) rfl ?_
          refine Fw.nil ?_
          refine hK21 _ _ (Fw.FC.sub (f' := [(6, _)]) (.cons rfl .nil) ?_)
          refine Fw.ret ?_
          refine Fw.X_blockR ?_
          refine Fw.X_ret ?_
          refine Fw.X_ret ?_
          refine Fw.X_blockR ?_
          refine Fw.X_ret ?_
          refine Fw.ret_ [.tmp 6] [_] Try.results3 (.tmp rfl .nil) ?_
          exact ⟨rfl, HB⟩
        · rintro h8b
          refine Fw.s (Fw.val_move rfl) rfl ?_
          refine Fw.gT (d := 58) rfl rfl ?_
          refine Fw.s (Fw.val_fieldAddr fl30_0 rfl rfl) rfl ?_
          refine Fw.gT (d := 58) rfl rfl ?_
          refine Fw.ld sc9 rfl (Hq.cell 0) rfl ?_
          refine Fw.gT (d := 58) rfl rfl ?_
          refine Fw.s (Fw.val_lenS Try.underlying9 rfl) rfl ?_
          refine Fw.gT (d := 58) rfl rfl ?_
          refine Fw.s2 (Fw.val_bin rfl rfl Fw.b_gtr) rfl ?_ ?_
          · rintro h300
            refine Fw.s (Fw.val_pickF rfl rfl) rfl ?_
            refine Fw.nil ?_
            refine hK19 _ _ (Fw.FC.sub (f' := [(63, _), (62, _), (61, _), (60, _), (59, _), (50, _), (49, _), (48, _), (3, _), (1, _), (2, _)]) (.cons rfl (.cons rfl (.cons rfl (.cons rfl (.cons rfl (.cons rfl (.cons rfl (.cons rfl (.cons rfl (.cons rfl (.cons rfl .nil))))))))))) ?_)
            refine Fw.condT rfl ?_
            refine Fw.seq fun _ hK23 => ?_
            refine Fw.region ?_
            refine Fw.s (Fw.val_assign rfl) rfl ?_
            refine Fw.nil ?_
            refine hK23 _ _ (Fw.FC.sub (f' := [(6, _)]) (.cons rfl .nil) ?_)
            refine Fw.ret ?_
            refine Fw.X_blockR ?_
            refine Fw.X_ret ?_
            refine Fw.X_ret ?_
            refine Fw.X_blockR ?_
            refine Fw.X_ret ?_
            refine Fw.ret_ [.tmp 6] [_] Try.results3 (.tmp rfl .nil) ?_
            exact ⟨rfl, HB⟩
          · rintro h300
            refine Fw.s (Fw.val_pickF rfl rfl) rfl ?_
            refine Fw.nil ?_
            refine hK19 _ _ (Fw.FC.sub (f' := [(63, _), (62, _), (61, _), (60, _), (59, _), (50, _), (49, _), (48, _), (3, _), (1, _), (2, _)]) (.cons rfl (.cons rfl (.cons rfl (.cons rfl (.cons rfl (.cons rfl (.cons rfl (.cons rfl (.cons rfl (.cons rfl (.cons rfl .nil))))))))))) ?_)
            refine Fw.condF rfl ?_
            refine Fw.skip ?_
            refine Fw.X_blockN ?_
            refine hK16 _ _ ?_
            refine Fw.region ?_
            refine Fw.s (Fw.val_bin rfl rfl (Fw.b_add (Fw.i64_ok (by omega)))) rfl ?_
            refine Fw.s (Fw.val_move rfl) rfl ?_
            refine Fw.nil ?_
            refine Fw.roundEnd _ _ (by omega) ⟨k + 1, rfl, by omega, Tk.all_take hk2 h8 (by omega), Ht, HB, rfl⟩ (.cons rfl (.cons rfl (.cons rfl (.cons rfl (.cons rfl (.cons rfl .nil))))))
      · rintro hlt
        refine Fw.nil ?_
        refine hK13 _ _ ?_
        refine Fw.seq fun _ hK24 => ?_
        refine Fw.condF rfl ?_
        refine Fw.exit ?_
        refine Fw.X_exit ?_
        refine Fw.X_exit ?_
        refine Fw.X_block ?_
        refine hK10 _ _ ?_
        refine Fw.seq fun _ hK25 => ?_
        rw [List.take_of_length_le (by omega)] at h8
        have ha : ∀ q ∈ qs, q.an.length ≤ 16 := fun q h => by have := h8 q h; omega
        have hql : qs.length ≤ 64 := by omega
        refine Fw.region ?_
        refine Fw.ldA ag24 rfl (Fw.rdBlk Ht) rfl rfl ?_
        refine Fw.call cf5 rfl rfl (validate_any _ nm ver Tq qs cq (by omega) (hq.low HB)) ?_
        rintro e_ w5 ⟨i1, e1, rfl, h1, hb⟩
        refine ⟨_, rfl, ?_⟩
        replace Ht := Ht.low hb
        replace HB := HB.trans (hb.mono HB.size)
        clear hb
        refine Fw.s (Fw.val_move rfl) rfl ?_
        refine Fw.s (Fw.val_extract rfl rfl) rfl ?_
        refine Fw.s (Fw.val_extract rfl rfl) rfl ?_
        refine Fw.s (Fw.val_assign rfl) rfl ?_
        refine Fw.s (Fw.val_assign rfl) rfl ?_
        refine Fw.nil ?_
        refine hK25 _ _ (Fw.FC.sub (f' := [(10, _), (3, _), (1, _), (2, _)]) (.cons rfl (.cons rfl (.cons rfl (.cons rfl .nil)))) ?_)
        refine Fw.seq fun _ hK26 => ?_
        refine Fw.region ?_
        refine Fw.ldA ag24 rfl (Fw.rdBlk Ht) rfl rfl ?_
        refine Fw.call cf6 rfl rfl (check_any _ nm ver Tq qs cq (hq.low HB) hql ha) ?_
        rintro e_ w6 ⟨i2, e2, rfl, h2, hb⟩
        refine ⟨_, rfl, ?_⟩
        replace Ht := Ht.low hb
        replace HB := HB.trans (hb.mono HB.size)
        clear hb
        refine Fw.s (Fw.val_move rfl) rfl ?_
        refine Fw.s (Fw.val_extract rfl rfl) rfl ?_
        refine Fw.s (Fw.val_extract rfl rfl) rfl ?_
        refine Fw.s (Fw.val_assign rfl) rfl ?_
        refine Fw.s (Fw.val_assign rfl) rfl ?_
        refine Fw.nil ?_
        refine hK26 _ _ ?_
        refine Fw.seq fun _ hK27 => ?_
        have HtN := Ht
        clear Ht
        have HZN := Below.refl w6.heap.size w6
        have hbN : w.heap.size ≤ w6.heap.size := HB.size
        refine Fw.region ?_
        refine Fw.ldA ag24 rfl (Fw.rdBlk (HtN.low HZN)) rfl rfl ?_
        refine Fw.call cf7 rfl rfl (new_any _ nm ver Tq qs cq (hq.low HB) hql ha) ?_
        rintro e_ w7 ⟨pt, e3, rfl, hnew, hb⟩
        refine ⟨_, rfl, ?_⟩
        obtain ⟨_, rfl, g, qs', rfl, hnf, HI⟩ := hnew.resolve_left (fun h => h.1 hg)
        have hg' : Tk.Good nm ver qs' := by rw [← Tk.Good_nf, hnf, Tk.Good_nf]; exact hg
        have hv' := hg'.1
        have hc1 : e1 = 0 := h1.2 hg.1
        have hc2 : e2 = 0 := h2.2 hg
        have hl1 := hg.1.2.2.2.1
        replace HZN := HZN.trans (hb.mono HZN.size)
        replace HB := HB.trans (hb.mono HB.size)
        clear hb
        refine Fw.s (Fw.val_move rfl) rfl ?_
        refine Fw.s (Fw.val_extract rfl rfl) rfl ?_
        refine Fw.s (Fw.val_extract rfl rfl) rfl ?_
        refine Fw.s (Fw.val_assign rfl) rfl ?_
        refine Fw.s (Fw.val_assign rfl) rfl ?_
        refine Fw.nil ?_
        refine hK27 _ _ (Fw.FC.sub (f' := [(14, _), (13, _), (12, _), (10, _), (3, _), (1, _), (2, _)]) (.cons rfl (.cons rfl (.cons rfl (.cons rfl (.cons rfl (.cons rfl (.cons rfl .nil))))))) ?_)
        refine Fw.seq fun _ hK28 => ?_
        refine Fw.seq fun _ hK29 => ?_
        refine Fw.region ?_
        refine Fw.s (Fw.val_move rfl) rfl ?_
        refine Fw.s (Fw.Val.F (Fw.val_bin rfl rfl Fw.b_neq) (by omega)) rfl ?_
        refine Fw.s (Fw.val_move rfl) rfl ?_
        refine Fw.gT (d := 82) rfl rfl ?_
        refine Fw.s (Fw.val_move rfl) rfl ?_
        refine Fw.gT (d := 82) rfl rfl ?_
        refine Fw.s (Fw.Val.F (Fw.val_bin rfl rfl Fw.b_neq) (by omega)) rfl ?_
        refine Fw.s (Fw.val_pickF rfl rfl) rfl ?_
        refine Fw.nil ?_
        refine hK29 _ _ (Fw.FC.sub (f' := [(85, _), (14, _), (13, _), (3, _), (1, _), (2, _)]) (.cons rfl (.cons rfl (.cons rfl (.cons rfl (.cons rfl (.cons rfl .nil)))))) ?_)
        refine Fw.condF rfl ?_
        refine Fw.skip ?_
        refine hK28 _ _ ?_
        refine Fw.seq fun _ hK30 => ?_
        refine Fw.region ?_
        refine Fw.ldA ag24 rfl (Fw.rdBlk (HtN.low HZN)) rfl rfl ?_
        refine Fw.call cf8 rfl rfl (maxq_any _ nm ver Tq qs cq (hq.low HB) hql ha hg 0 (by omega)) ?_
        rintro e_ w8 ⟨m, rfl, hbd, hb⟩
        refine ⟨_, rfl, ?_⟩
        replace HZN := HZN.trans (hb.mono HZN.size)
        replace HI := HI.low hb
        replace HB := HB.trans (hb.mono HB.size)
        clear hb
        have hbd' : Tk.Bd qs' 0 m := by rw [← Tk.Bd_nf, hnf, Tk.Bd_nf]; exact hbd
        refine Fw.s (Fw.val_move rfl) rfl ?_
        refine Fw.s (Fw.val_extract rfl rfl) rfl ?_
        refine Fw.s (Fw.val_extract rfl rfl) rfl ?_
        refine Fw.s (Fw.val_assign rfl) rfl ?_
        refine Fw.s (Fw.val_assign rfl) rfl ?_
        refine Fw.nil ?_
        refine hK30 _ _ ?_
        refine Fw.seq fun _ hK31 => ?_
        refine Fw.seq fun _ hK32 => ?_
        refine Fw.region ?_
        refine Fw.s (Fw.val_move rfl) rfl ?_
        refine Fw.s (Fw.Val.F (Fw.val_bin rfl rfl Fw.b_neq) (by omega)) rfl ?_
        refine Fw.s (Fw.val_move rfl) rfl ?_
        refine Fw.gT (d := 99) rfl rfl ?_
        refine Fw.s (Fw.val_move rfl) rfl ?_
        refine Fw.gT (d := 99) rfl rfl ?_
        refine Fw.s (Fw.val_bin rfl rfl (Fw.b_nilP Try.underlying34)) rfl ?_
        refine Fw.s (Fw.val_pickF rfl rfl) rfl ?_
        refine Fw.s (Fw.val_move rfl) rfl ?_
        refine Fw.gT (d := 103) rfl rfl ?_
        refine Fw.s (Fw.val_move rfl) rfl ?_
        refine Fw.gT (d := 103) rfl rfl ?_
        refine Fw.s (Fw.Val.F (Fw.val_bin rfl rfl Fw.b_neq) (by omega)) rfl ?_
        refine Fw.s (Fw.val_pickF rfl rfl) rfl ?_
        refine Fw.nil ?_
        refine hK32 _ _ (Fw.FC.sub (f' := [(106, _), (15, _), (13, _), (3, _), (1, _), (2, _)]) (.cons rfl (.cons rfl (.cons rfl (.cons rfl (.cons rfl (.cons rfl .nil)))))) ?_)
        refine Fw.condF rfl ?_
        refine Fw.skip ?_
        refine hK31 _ _ ?_
        refine Fw.seq fun _ hK33 => ?_
        refine Fw.region ?_
        refine Fw.s (Fw.val_move rfl) rfl ?_
        refine Fw.call cf9 rfl rfl (ivrange_any _ _ g nm ver qs' [] HI hv' (Tk.Wy.nil qs') (by simp)) ?_
        rintro e_ w9 ⟨lo0, hi0, rfl, hu0, hb⟩
        refine ⟨_, rfl, ?_⟩
        replace HZN := HZN.trans (hb.mono HZN.size)
        replace HI := HI.low hb
        replace HB := HB.trans (hb.mono HB.size)
        clear hb
        refine Fw.s (Fw.val_move rfl) rfl ?_
        refine Fw.s (Fw.val_extract rfl rfl) rfl ?_
        refine Fw.s (Fw.val_extract rfl rfl) rfl ?_
        refine Fw.s (Fw.val_assign rfl) rfl ?_
        refine Fw.s (Fw.val_assign rfl) rfl ?_
        refine Fw.nil ?_
        refine hK33 _ _ ?_
        refine Fw.seq fun _ hK34 => ?_
        refine Fw.seq fun _ hK35 => ?_
        refine Fw.region ?_
        refine Fw.s (Fw.val_move rfl) rfl ?_
        refine Fw.s (Fw.val_len Try.underlying25 rfl) rfl ?_
        refine Fw.s (Fw.val_move rfl) rfl ?_
        refine Fw.nil ?_
        refine hK35 _ _ (Fw.FC.sub (f' := [(114, _), (113, _), (112, _), (18, _), (17, _), (15, _), (13, _), (3, _), (2, _)]) (.cons rfl (.cons rfl (.cons rfl (.cons rfl (.cons rfl (.cons rfl (.cons rfl (.cons rfl (.cons rfl .nil))))))))) ?_)
        refine Fw.block ?_
        refine Fw.loop (fun m_ f_ W_ => ∃ (k : Nat) (l : List Nat) (worst : Int) (best : Int), m_ = sd.length - k ∧ k ≤ sd.length ∧ Tk.Wy qs' l ∧ Tk.Ur qs' l worst best ∧ l.length ≤ k ∧ Below w6.heap.size w6 W_ ∧ Tk.IvAt W_ w6.heap.size g nm ver qs' l ∧ Below (w.heap.size) w W_ ∧ f_ = [(114, .int .i64 k), (113, .int .i64 sd.length), (112, .slice Sa sd.length sc), (18, .int .i64 best), (17, .int .i64 worst), (15, .int .i64 (m : Int)), (13, .pointer (some ⟨g, 0, none⟩)), (3, .pointer (some ⟨gt, 0, none⟩)), (2, .slice Ba bk.length bc)]) ⟨_, _, ⟨0, [], lo0, hi0, rfl, Nat.zero_le _, Tk.Wy.nil qs', hu0, Nat.le_refl _, HZN, HI, HB, rfl⟩, (.cons rfl (.cons rfl (.cons rfl (.cons rfl (.cons rfl (.cons rfl (.cons rfl (.cons rfl (.cons rfl .nil)))))))))⟩ ?_
        clear HZN HI HB
        rintro m36_ _ w10 ⟨k, l, worst, best, hm36_, hk, hw, hu, hlk, HZN, HI, HB, rfl⟩
        refine Fw.seq fun _ hK37 => ?_
        refine Fw.region ?_
        refine Fw.s2 (Fw.val_bin rfl rfl Fw.b_lss) rfl ?_ ?_
        · rintro hlt2
          refine Fw.nil ?_
          refine hK37 _ _ ?_
          refine Fw.seq fun _ hK39 => ?_
          refine Fw.condT rfl ?_
          refine Fw.skip ?_
          refine hK39 _ _ ?_
          refine Fw.seq fun _ hK40 => ?_
          refine Fw.block ?_
          refine Fw.seq fun _ hK41 => ?_
          have hk2 : k < sd.length := by omega
          have hby2 := hby _ (List.getElem_mem hk2)
          refine Fw.region ?_
          refine Fw.s (Fw.val_move rfl) rfl ?_
          obtain ⟨ads, bs_, os_, hAs, hadds, HSe⟩ := Fw.rdAtM hsd k hk2
          refine Fw.s (Fw.val_indexR Try.underlying25 sz5 rfl hAs rfl rfl hk2 hadds) rfl ?_
          refine Fw.ld sc5 rfl (((HB.cell (World.block_lt_of_cell? _ _ HSe)).trans HSe)) rfl ?_
          refine Fw.s (Fw.val_assign rfl) rfl ?_
          refine Fw.s (Fw.val_assign rfl) rfl ?_
          refine Fw.nil ?_
          refine hK41 _ _ ?_
          refine Fw.seq fun _ hK43 => ?_
          refine Fw.region ?_
          refine Fw.s (Fw.val_move rfl) rfl ?_
          refine Fw.call cf10 rfl rfl (question_any _ _ g nm ver qs' l HI hv' hw) ?_
          rintro e_ w11 ⟨tx, An, n, cn, bq, rfl, hbq, hbn, hb⟩
          refine ⟨_, rfl, ?_⟩
          replace HZN := HZN.trans (hb.mono HZN.size)
          replace HI := HI.low hb
          replace HB := HB.trans (hb.mono HB.size)
          clear hb
          refine Fw.s (Fw.val_move rfl) rfl ?_
          refine Fw.s (Fw.val_extract rfl rfl) rfl ?_
          refine Fw.s (Fw.val_extract rfl rfl) rfl ?_
          refine Fw.b2 ?_ ?_
          · rintro rfl
            have HIz := HI
            clear HI
            have HZI := Below.refl w11.heap.size w11
            refine Fw.alloc ze30 rfl ?_
            intro w12 gy egy Hy hb
            have bgy : w11.heap.size ≤ gy := by omega
            have bNgy : w6.heap.size ≤ gy := by have := HZN.size; omega
            have lgy : w.heap.size ≤ gy := by have := HB.size; omega
            replace HZN := HZN.trans (hb.mono HZN.size)
            replace HZI := HZI.trans (hb.mono HZI.size)
            replace HB := HB.trans (hb.mono HB.size)
            clear hb
            clear egy
            refine Fw.storeW sz30 rfl rfl Hy rfl rfl (by exact Fw.oneCells rfl) ?_
            intro w13 N_ hc
            replace HZN := HZN.trans (hc.below (B := w6.heap.size) (fun k e => by omega) HZN.size)
            replace HZI := HZI.trans (hc.below (B := w11.heap.size) (fun k e => by omega) HZI.size)
            replace HB := HB.trans (hc.below (B := w.heap.size) (fun k e => by omega) HB.size)
            clear hc
            clear Hy
            have Hy := N_
            clear N_
            replace Hy : Blk w13 gy 30 #[.string tx, .slice An n cn] := Hy
            refine Fw.s (Fw.val_assign rfl) rfl ?_
            refine Fw.nil ?_
            refine hK43 _ _ (Fw.FC.sub (f' := [(22, _), (21, _), (20, _), (19, _), (114, _), (113, _), (112, _), (18, _), (17, _), (15, _), (13, _), (3, _), (2, _)]) (.cons rfl (.cons rfl (.cons rfl (.cons rfl (.cons rfl (.cons rfl (.cons rfl (.cons rfl (.cons rfl (.cons rfl (.cons rfl (.cons rfl (.cons rfl .nil))))))))))))) ?_)
            refine Fw.seq fun _ hK44 => ?_
            refine Fw.seq fun _ hK45 => ?_
            have HI := HIz.low HZI
            clear HIz HZI
            refine Fw.region ?_
            refine Fw.s (Fw.val_move rfl) rfl ?_
            refine Fw.s (Fw.val_not rfl) rfl ?_
            refine Fw.nil ?_
            refine hK45 _ _ ?_
            refine Fw.condF rfl ?_
            refine Fw.skip ?_
            refine hK44 _ _ ?_
            refine Fw.seq fun _ hK46 => ?_
            refine Fw.seq fun _ hK47 => ?_
            obtain ⟨hcl, hc0, hn⟩ := hbn rfl
            have hqv := (hv'.1 _ (List.getElem_mem hcl)).2.1
            refine Fw.region ?_
            refine Fw.s (Fw.val_fieldAddr fl30_1 rfl rfl) rfl ?_
            refine Fw.ld sc28 rfl (Hy.cell 1) rfl ?_
            refine Fw.s (Fw.val_len Try.underlying28 rfl) rfl ?_
            refine Fw.s (Fw.Val.F (Fw.val_bin rfl rfl Fw.b_eql) (by omega)) rfl ?_
            refine Fw.nil ?_
            refine hK47 _ _ ?_
            refine Fw.condF rfl ?_
            refine Fw.skip ?_
            refine hK46 _ _ (Fw.FC.sub (f' := [(21, _), (20, _), (19, _), (114, _), (113, _), (112, _), (18, _), (17, _), (15, _), (13, _), (3, _), (2, _)]) (.cons rfl (.cons rfl (.cons rfl (.cons rfl (.cons rfl (.cons rfl (.cons rfl (.cons rfl (.cons rfl (.cons rfl (.cons rfl (.cons rfl .nil)))))))))))) ?_)
            refine Fw.seq fun _ hK48 => ?_
            refine Fw.region ?_
            refine Fw.s (Fw.val_move rfl) rfl ?_
            refine Fw.call cf11 rfl rfl (answers_any _ _ g nm ver qs' l HI (by omega)) ?_
            rintro e_ w14 ⟨A1_, c1_, rfl, HO1, hb⟩
            refine ⟨_, rfl, ?_⟩
            clear HO1
            replace HZN := HZN.trans (hb.mono HZN.size)
            replace Hy := Hy.low hb
            replace HI := HI.low hb
            replace HB := HB.trans (hb.mono HB.size)
            clear hb
            refine Fw.s (Fw.val_len Try.underlying42 rfl) rfl ?_
            refine Fw.s (Fw.val_assign rfl) rfl ?_
            refine Fw.nil ?_
            refine hK48 _ _ ?_
            refine Fw.seq fun _ hK49 => ?_
            refine Fw.seq fun _ hK50 => ?_
            have ham : sd[k].toNat % n < n := Nat.mod_lt _ (by omega)
            obtain ⟨a, ea⟩ : ∃ a, a = sd[k].toNat % n := ⟨_, rfl⟩
            have eam : Int.tmod sd[k] (n : Int) = (a : Int) := by rw [ea, Int.tmod_eq_emod_of_nonneg hby2.1, Int.natCast_emod, Int.toNat_of_nonneg hby2.1]
            have hx := Tk.ans_of (qs := qs') (a := a) hc0 hcl (by omega)
            revert hx
            generalize qs'[(Tk.cur qs' l).toNat].an[a]'(by omega) = x
            intro hx
            refine Fw.region ?_
            refine Fw.s (Fw.val_move rfl) rfl ?_
            refine Fw.s (Fw.val_move rfl) rfl ?_
            refine Fw.s (Fw.val_conv Try.underlying5 Try.underlying3 rfl (Fw.i64_ok (by omega))) rfl ?_
            refine Fw.s (Fw.val_fieldAddr fl30_1 rfl rfl) rfl ?_
            refine Fw.ld sc28 rfl (Hy.cell 1) rfl ?_
            refine Fw.s (Fw.val_len Try.underlying28 rfl) rfl ?_
            refine Fw.s (Fw.val_bin rfl rfl (Fw.b_rem (by omega) eam)) rfl ?_
            refine Fw.call cf12 rfl rfl (answer_any _ _ g nm ver qs' l HI HZN.size a x hx (by omega)) ?_
            rintro e_ w15 ⟨rfl, H2, hb⟩
            refine ⟨_, rfl, ?_⟩
            replace HB := HB.trans (hb.mono hbN)
            replace HZN := HZN.trans hb
            clear hb HI Hy
            have HI := H2
            clear H2
            have hw2 := hw.snoc hx
            have hla : (l ++ [a]).length = l.length + 1 := by simp
            have hfew := Tk.few hv' hbd' hw2
            refine Fw.s (Fw.Val.F (Fw.val_bin rfl rfl Fw.b_neq) (by omega)) rfl ?_
            refine Fw.s (Fw.val_move rfl) rfl ?_
            refine Fw.gT (d := 142) rfl rfl ?_
            refine Fw.s (Fw.val_move rfl) rfl ?_
            refine Fw.gT (d := 142) rfl rfl ?_
            refine Fw.call cf11 rfl rfl (answers_any _ _ g nm ver qs' (l ++ [a]) HI (by omega)) ?_
            rintro e_ w16 ⟨A2_, c2_, rfl, HO2, hb⟩
            refine ⟨_, rfl, ?_⟩
            clear HO2
            replace HZN := HZN.trans (hb.mono HZN.size)
            replace HI := HI.low hb
            replace HB := HB.trans (hb.mono HB.size)
            clear hb
            refine Fw.gT (d := 142) rfl rfl ?_
            refine Fw.s (Fw.val_len Try.underlying42 rfl) rfl ?_
            refine Fw.gT (d := 142) rfl rfl ?_
            refine Fw.s (Fw.val_move rfl) rfl ?_
            refine Fw.gT (d := 142) rfl rfl ?_
            refine Fw.s (Fw.val_bin rfl rfl (Fw.b_add (Fw.i64_ok (by omega)))) rfl ?_
            refine Fw.gT (d := 142) rfl rfl ?_
            refine Fw.s (Fw.Val.F (Fw.val_bin rfl rfl Fw.b_neq) (by omega)) rfl ?_
            refine Fw.s (Fw.val_pickF rfl rfl) rfl ?_
            refine Fw.s (Fw.val_move rfl) rfl ?_
            refine Fw.gT (d := 150) rfl rfl ?_
            refine Fw.s (Fw.val_move rfl) rfl ?_
            refine Fw.gT (d := 150) rfl rfl ?_
            refine Fw.call cf11 rfl rfl (answers_any _ _ g nm ver qs' (l ++ [a]) HI (by omega)) ?_
            rintro e_ w17 ⟨A3_, c3_, rfl, HO3, hb⟩
            refine ⟨_, rfl, ?_⟩
            clear HO3
            replace HZN := HZN.trans (hb.mono HZN.size)
            replace HI := HI.low hb
            replace HB := HB.trans (hb.mono HB.size)
            clear hb
            refine Fw.gT (d := 150) rfl rfl ?_
            refine Fw.s (Fw.val_len Try.underlying42 rfl) rfl ?_
            refine Fw.gT (d := 150) rfl rfl ?_
            refine Fw.s (Fw.val_move rfl) rfl ?_
            refine Fw.gT (d := 150) rfl rfl ?_
            refine Fw.s (Fw.Val.F (Fw.val_bin rfl rfl Fw.b_gtr) (by omega)) rfl ?_
            refine Fw.s (Fw.val_pickF rfl rfl) rfl ?_
            refine Fw.nil ?_
            refine hK50 _ _ (Fw.FC.sub (f' := [(156, _), (155, _), (154, _), (153, _), (152, _), (151, _), (148, _), (147, _), (146, _), (145, _), (144, _), (143, _), (19, _), (114, _), (113, _), (112, _), (18, _), (17, _), (15, _), (13, _), (3, _), (2, _)]) (.cons rfl (.cons rfl (.cons rfl (.cons rfl (.cons rfl (.cons rfl (.cons rfl (.cons rfl (.cons rfl (.cons rfl (.cons rfl (.cons rfl (.cons rfl (.cons rfl (.cons rfl (.cons rfl (.cons rfl (.cons rfl (.cons rfl (.cons rfl (.cons rfl (.cons rfl .nil)))))))))))))))))))))) ?_)
            refine Fw.condF rfl ?_
            refine Fw.skip ?_
            refine hK49 _ _ ?_
            refine Fw.seq fun _ hK51 => ?_
            refine Fw.region ?_
            refine Fw.s (Fw.val_move rfl) rfl ?_
            refine Fw.call cf9 rfl rfl (ivrange_any _ _ g nm ver qs' (l ++ [a]) HI hv' hw2 (by omega)) ?_
            rintro e_ w18 ⟨lo1, hi1, rfl, hu1, hb⟩
            refine ⟨_, rfl, ?_⟩
            replace HZN := HZN.trans (hb.mono HZN.size)
            replace HI := HI.low hb
            replace HB := HB.trans (hb.mono HB.size)
            clear hb
            have hsh := Tk.shrink hv' hbd' hw hx hu hu1
            refine Fw.s (Fw.val_move rfl) rfl ?_
            refine Fw.s (Fw.val_extract rfl rfl) rfl ?_
            refine Fw.s (Fw.val_extract rfl rfl) rfl ?_
            refine Fw.s (Fw.val_assign rfl) rfl ?_
            refine Fw.s (Fw.val_assign rfl) rfl ?_
            refine Fw.nil ?_
            refine hK51 _ _ ?_
            refine Fw.seq fun _ hK52 => ?_
            refine Fw.seq fun _ hK53 => ?_
            refine Fw.region ?_
            refine Fw.s (Fw.val_move rfl) rfl ?_
            refine Fw.s (Fw.val_move rfl) rfl ?_
            refine Fw.s (Fw.Val.F (Fw.val_bin rfl rfl Fw.b_lss) (by omega)) rfl ?_
            refine Fw.s (Fw.val_move rfl) rfl ?_
            refine Fw.gT (d := 165) rfl rfl ?_
            refine Fw.s (Fw.val_move rfl) rfl ?_
            refine Fw.gT (d := 165) rfl rfl ?_
            refine Fw.s (Fw.val_move rfl) rfl ?_
            refine Fw.gT (d := 165) rfl rfl ?_
            refine Fw.s (Fw.Val.F (Fw.val_bin rfl rfl Fw.b_gtr) (by omega)) rfl ?_
            refine Fw.s (Fw.val_pickF rfl rfl) rfl ?_
            refine Fw.s (Fw.val_move rfl) rfl ?_
            refine Fw.gT (d := 170) rfl rfl ?_
            refine Fw.s (Fw.val_move rfl) rfl ?_
            refine Fw.gT (d := 170) rfl rfl ?_
            refine Fw.s (Fw.val_move rfl) rfl ?_
            refine Fw.gT (d := 170) rfl rfl ?_
            refine Fw.s (Fw.Val.F (Fw.val_bin rfl rfl Fw.b_gtr) (by omega)) rfl ?_
            refine Fw.s (Fw.val_pickF rfl rfl) rfl ?_
            refine Fw.nil ?_
            refine hK53 _ _ (Fw.FC.sub (f' := [(174, _), (173, _), (172, _), (171, _), (168, _), (167, _), (166, _), (25, _), (24, _), (155, _), (154, _), (153, _), (152, _), (151, _), (148, _), (147, _), (146, _), (145, _), (144, _), (143, _), (19, _), (114, _), (113, _), (112, _), (18, _), (17, _), (15, _), (13, _), (3, _), (2, _)]) (.cons rfl (.cons rfl (.cons rfl (.cons rfl (.cons rfl (.cons rfl (.cons rfl (.cons rfl (.cons rfl (.cons rfl (.cons rfl (.cons rfl (.cons rfl (.cons rfl (.cons rfl (.cons rfl (.cons rfl (.cons rfl (.cons rfl (.cons rfl (.cons rfl (.cons rfl (.cons rfl (.cons rfl (.cons rfl (.cons rfl (.cons rfl (.cons rfl (.cons rfl (.cons rfl .nil)))))))))))))))))))))))))))))) ?_)
            refine Fw.condF rfl ?_
            refine Fw.skip ?_
            refine hK52 _ _ ?_
            refine Fw.seq fun _ hK54 => ?_
            refine Fw.seq fun _ hK55 => ?_
            refine Fw.region ?_
            refine Fw.s (Fw.val_move rfl) rfl ?_
            refine Fw.s (Fw.val_move rfl) rfl ?_
            refine Fw.s (Fw.val_len Try.underlying26 rfl) rfl ?_
            refine Fw.s2 (Fw.val_bin rfl rfl Fw.b_lss) rfl ?_ ?_
            · rintro hbk1
              refine Fw.s (Fw.val_move rfl) rfl ?_
              refine Fw.gT (d := 179) rfl rfl ?_
              refine Fw.s (Fw.val_move rfl) rfl ?_
              refine Fw.gT (d := 179) rfl rfl ?_
              refine Fw.s (Fw.val_move rfl) rfl ?_
              refine Fw.gT (d := 179) rfl rfl ?_
              obtain ⟨adb, bb_, ob_, hAb, haddb, HBe⟩ := Fw.rdAtM hbk k (by omega)
              refine Fw.s (Fw.val_indexR Try.underlying26 sz4 rfl hAb rfl rfl (by omega) haddb) rfl ?_
              refine Fw.gT (d := 179) rfl rfl ?_
              refine Fw.ld sc4 rfl (((HB.cell (World.block_lt_of_cell? _ _ HBe)).trans HBe)) rfl ?_
              refine Fw.b2 ?_ ?_
              · rintro hbk2
                refine Fw.s (Fw.val_pickT rfl rfl) rfl ?_
                refine Fw.nil ?_
                refine hK55 _ _ (Fw.FC.sub (f' := [(184, _), (183, _), (182, _), (181, _), (180, _), (173, _), (172, _), (171, _), (168, _), (167, _), (166, _), (25, _), (24, _), (155, _), (154, _), (153, _), (152, _), (151, _), (148, _), (147, _), (146, _), (145, _), (144, _), (143, _), (114, _), (113, _), (112, _), (18, _), (17, _), (15, _), (13, _), (3, _), (2, _)]) (.cons rfl (.cons rfl (.cons rfl (.cons rfl (.cons rfl (.cons rfl (.cons rfl (.cons rfl (.cons rfl (.cons rfl (.cons rfl (.cons rfl (.cons rfl (.cons rfl (.cons rfl (.cons rfl (.cons rfl (.cons rfl (.cons rfl (.cons rfl (.cons rfl (.cons rfl (.cons rfl (.cons rfl (.cons rfl (.cons rfl (.cons rfl (.cons rfl (.cons rfl (.cons rfl (.cons rfl (.cons rfl (.cons rfl .nil))))))))))))))))))))))))))))))))) ?_)
                refine Fw.condT rfl ?_
                refine Fw.seq fun _ hK58 => ?_
                refine Fw.seq fun _ hK59 => ?_
                refine Fw.region ?_
                refine Fw.s (Fw.val_move rfl) rfl ?_
                refine Fw.call cf13 rfl rfl (undo_any _ _ g nm ver qs' l a HI HZN.size (by omega)) ?_
                rintro e_ w19 ⟨rfl, H2, hb⟩
                refine ⟨_, rfl, ?_⟩
                replace HB := HB.trans (hb.mono hbN)
                replace HZN := HZN.trans hb
                clear hb HI
                have HI := H2
                clear H2
                refine Fw.s (Fw.Val.F (Fw.val_bin rfl rfl Fw.b_neq) (by omega)) rfl ?_
                refine Fw.nil ?_
                refine hK59 _ _ ?_
                refine Fw.condF rfl ?_
                refine Fw.skip ?_
                refine hK58 _ _ ?_
                refine Fw.seq fun _ hK60 => ?_
                refine Fw.seq fun _ hK61 => ?_
                refine Fw.region ?_
                refine Fw.s (Fw.val_move rfl) rfl ?_
                refine Fw.call cf9 rfl rfl (ivrange_any _ _ g nm ver qs' l HI hv' hw (by omega)) ?_
                rintro e_ w20 ⟨lo2, hi2, rfl, hu2, hb⟩
                refine ⟨_, rfl, ?_⟩
                replace HZN := HZN.trans (hb.mono HZN.size)
                replace HI := HI.low hb
                replace HB := HB.trans (hb.mono HB.size)
                clear hb
                obtain ⟨eu1, eu2⟩ := Tk.Ur.uniq hu2 hu
                refine Fw.s (Fw.val_move rfl) rfl ?_
                refine Fw.s (Fw.val_extract rfl rfl) rfl ?_
                refine Fw.s (Fw.val_extract rfl rfl) rfl ?_
                refine Fw.s (Fw.val_assign rfl) rfl ?_
                refine Fw.s (Fw.val_assign rfl) rfl ?_
                refine Fw.nil ?_
                refine hK61 _ _ (Fw.FC.sub (f' := [(25, _), (24, _), (183, _), (182, _), (181, _), (180, _), (173, _), (172, _), (171, _), (168, _), (167, _), (166, _), (155, _), (154, _), (153, _), (152, _), (151, _), (148, _), (147, _), (146, _), (145, _), (144, _), (143, _), (114, _), (113, _), (112, _), (18, _), (17, _), (15, _), (13, _), (3, _), (2, _)]) (.cons rfl (.cons rfl (.cons rfl (.cons rfl (.cons rfl (.cons rfl (.cons rfl (.cons rfl (.cons rfl (.cons rfl (.cons rfl (.cons rfl (.cons rfl (.cons rfl (.cons rfl (.cons rfl (.cons rfl (.cons rfl (.cons rfl (.cons rfl (.cons rfl (.cons rfl (.cons rfl (.cons rfl (.cons rfl (.cons rfl (.cons rfl (.cons rfl (.cons rfl (.cons rfl (.cons rfl (.cons rfl .nil)))))))))))))))))))))))))))))))) ?_)
                refine Fw.seq fun _ hK62 => ?_
                refine Fw.region ?_
                refine Fw.s (Fw.val_move rfl) rfl ?_
                refine Fw.s (Fw.val_move rfl) rfl ?_
                refine Fw.s (Fw.Val.F (Fw.val_bin rfl rfl Fw.b_neq) (by omega)) rfl ?_
                refine Fw.s (Fw.val_move rfl) rfl ?_
                refine Fw.gT (d := 196) rfl rfl ?_
                refine Fw.s (Fw.val_move rfl) rfl ?_
                refine Fw.gT (d := 196) rfl rfl ?_
                refine Fw.s (Fw.val_move rfl) rfl ?_
                refine Fw.gT (d := 196) rfl rfl ?_
                refine Fw.s (Fw.Val.F (Fw.val_bin rfl rfl Fw.b_neq) (by omega)) rfl ?_
                refine Fw.s (Fw.val_pickF rfl rfl) rfl ?_
                refine Fw.nil ?_
                refine hK62 _ _ ?_
                refine Fw.condF rfl ?_
                refine Fw.skip ?_
                refine hK60 _ _ (Fw.FC.sub (f' := [(199, _), (198, _), (197, _), (183, _), (182, _), (181, _), (180, _), (173, _), (172, _), (171, _), (168, _), (167, _), (166, _), (155, _), (154, _), (153, _), (152, _), (151, _), (148, _), (147, _), (146, _), (145, _), (144, _), (143, _), (114, _), (113, _), (112, _), (18, _), (17, _), (15, _), (13, _), (3, _), (2, _)]) (.cons rfl (.cons rfl (.cons rfl (.cons rfl (.cons rfl (.cons rfl (.cons rfl (.cons rfl (.cons rfl (.cons rfl (.cons rfl (.cons rfl (.cons rfl (.cons rfl (.cons rfl (.cons rfl (.cons rfl (.cons rfl (.cons rfl (.cons rfl (.cons rfl (.cons rfl (.cons rfl (.cons rfl (.cons rfl (.cons rfl (.cons rfl (.cons rfl (.cons rfl (.cons rfl (.cons rfl (.cons rfl (.cons rfl .nil))))))))))))))))))))))))))))))))) ?_)
                refine Fw.exit ?_
                refine Fw.X_exit ?_
                refine Fw.X_block ?_
                refine hK40 _ _ ?_
                refine Fw.region ?_
                refine Fw.s (Fw.val_bin rfl rfl (Fw.b_add (Fw.i64_ok (by omega)))) rfl ?_
                refine Fw.s (Fw.val_move rfl) rfl ?_
                refine Fw.nil ?_
                refine Fw.roundEnd _ _ (by omega) ⟨k + 1, l, worst, best, rfl, by omega, hw, hu, by omega, HZN, HI, HB, rfl⟩ (.cons rfl (.cons rfl (.cons rfl (.cons rfl (.cons rfl (.cons rfl (.cons rfl (.cons rfl (.cons rfl .nil)))))))))
              · rintro hbk2
                refine Fw.s (Fw.val_pickT rfl rfl) rfl ?_
                refine Fw.nil ?_
                refine hK55 _ _ (Fw.FC.sub (f' := [(184, _), (183, _), (182, _), (181, _), (180, _), (173, _), (172, _), (171, _), (168, _), (167, _), (166, _), (25, _), (24, _), (155, _), (154, _), (153, _), (152, _), (151, _), (148, _), (147, _), (146, _), (145, _), (144, _), (143, _), (114, _), (113, _), (112, _), (18, _), (17, _), (15, _), (13, _), (3, _), (2, _)]) (.cons rfl (.cons rfl (.cons rfl (.cons rfl (.cons rfl (.cons rfl (.cons rfl (.cons rfl (.cons rfl (.cons rfl (.cons rfl (.cons rfl (.cons rfl (.cons rfl (.cons rfl (.cons rfl (.cons rfl (.cons rfl (.cons rfl (.cons rfl (.cons rfl (.cons rfl (.cons rfl (.cons rfl (.cons rfl (.cons rfl (.cons rfl (.cons rfl (.cons rfl (.cons rfl (.cons rfl (.cons rfl (.cons rfl .nil))))))))))))))))))))))))))))))))) ?_)
                refine Fw.condF rfl ?_
                refine Fw.skip ?_
                refine hK54 _ _ ?_
                refine Fw.region ?_
                refine Fw.s (Fw.val_move rfl) rfl ?_
                refine Fw.s (Fw.val_move rfl) rfl ?_
                refine Fw.s (Fw.val_assign rfl) rfl ?_
                refine Fw.s (Fw.val_assign rfl) rfl ?_
                refine Fw.nil ?_
                refine Fw.X_blockN ?_
                refine hK40 _ _ (Fw.FC.sub (f' := [(18, _), (17, _), (183, _), (182, _), (181, _), (180, _), (173, _), (172, _), (171, _), (168, _), (167, _), (166, _), (155, _), (154, _), (153, _), (152, _), (151, _), (148, _), (147, _), (146, _), (145, _), (144, _), (143, _), (114, _), (113, _), (112, _), (15, _), (13, _), (3, _), (2, _)]) (.cons rfl (.cons rfl (.cons rfl (.cons rfl (.cons rfl (.cons rfl (.cons rfl (.cons rfl (.cons rfl (.cons rfl (.cons rfl (.cons rfl (.cons rfl (.cons rfl (.cons rfl (.cons rfl (.cons rfl (.cons rfl (.cons rfl (.cons rfl (.cons rfl (.cons rfl (.cons rfl (.cons rfl (.cons rfl (.cons rfl (.cons rfl (.cons rfl (.cons rfl (.cons rfl .nil)))))))))))))))))))))))))))))) ?_)
                refine Fw.region ?_
                refine Fw.s (Fw.val_bin rfl rfl (Fw.b_add (Fw.i64_ok (by omega)))) rfl ?_
                refine Fw.s (Fw.val_move rfl) rfl ?_
                refine Fw.nil ?_
                refine Fw.roundEnd _ _ (by omega) ⟨k + 1, l ++ [a], lo1, hi1, rfl, by omega, hw2, hu1, by omega, HZN, HI, HB, rfl⟩ (.cons rfl (.cons rfl (.cons rfl (.cons rfl (.cons rfl (.cons rfl (.cons rfl (.cons rfl (.cons rfl .nil)))))))))
            · rintro hbk1
              refine Fw.s (Fw.val_move rfl) rfl ?_
              refine Fw.gF (d := 179) rfl rfl rfl rfl ?_
              refine Fw.gF (d := 179) rfl rfl rfl rfl ?_
              refine Fw.gF (d := 179) rfl rfl rfl rfl ?_
              refine Fw.gF (d := 179) rfl rfl rfl rfl ?_
              refine Fw.s (Fw.val_pickF rfl rfl) rfl ?_
              refine Fw.nil ?_
              refine hK55 _ _ (Fw.FC.sub (f' := [(184, _), (183, _), (182, _), (181, _), (180, _), (173, _), (172, _), (171, _), (168, _), (167, _), (166, _), (25, _), (24, _), (155, _), (154, _), (153, _), (152, _), (151, _), (148, _), (147, _), (146, _), (145, _), (144, _), (143, _), (114, _), (113, _), (112, _), (18, _), (17, _), (15, _), (13, _), (3, _), (2, _)]) (.cons rfl (.cons rfl (.cons rfl (.cons rfl (.cons rfl (.cons rfl (.cons rfl (.cons rfl (.cons rfl (.cons rfl (.cons rfl (.cons rfl (.cons rfl (.cons rfl (.cons rfl (.cons rfl (.cons rfl (.cons rfl (.cons rfl (.cons rfl (.cons rfl (.cons rfl (.cons rfl (.cons rfl (.cons rfl (.cons rfl (.cons rfl (.cons rfl (.cons rfl (.cons rfl (.cons rfl (.cons rfl (.cons rfl .nil))))))))))))))))))))))))))))))))) ?_)
              refine Fw.condF rfl ?_
              refine Fw.skip ?_
              refine hK54 _ _ ?_
              refine Fw.region ?_
              refine Fw.s (Fw.val_move rfl) rfl ?_
              refine Fw.s (Fw.val_move rfl) rfl ?_
              refine Fw.s (Fw.val_assign rfl) rfl ?_
              refine Fw.s (Fw.val_assign rfl) rfl ?_
              refine Fw.nil ?_
              refine Fw.X_blockN ?_
              refine hK40 _ _ (Fw.FC.sub (f' := [(18, _), (17, _), (183, _), (182, _), (181, _), (180, _), (173, _), (172, _), (171, _), (168, _), (167, _), (166, _), (155, _), (154, _), (153, _), (152, _), (151, _), (148, _), (147, _), (146, _), (145, _), (144, _), (143, _), (114, _), (113, _), (112, _), (15, _), (13, _), (3, _), (2, _)]) (.cons rfl (.cons rfl (.cons rfl (.cons rfl (.cons rfl (.cons rfl (.cons rfl (.cons rfl (.cons rfl (.cons rfl (.cons rfl (.cons rfl (.cons rfl (.cons rfl (.cons rfl (.cons rfl (.cons rfl (.cons rfl (.cons rfl (.cons rfl (.cons rfl (.cons rfl (.cons rfl (.cons rfl (.cons rfl (.cons rfl (.cons rfl (.cons rfl (.cons rfl (.cons rfl .nil)))))))))))))))))))))))))))))) ?_)
              refine Fw.region ?_
              refine Fw.s (Fw.val_bin rfl rfl (Fw.b_add (Fw.i64_ok (by omega)))) rfl ?_
              refine Fw.s (Fw.val_move rfl) rfl ?_
              refine Fw.nil ?_
              refine Fw.roundEnd _ _ (by omega) ⟨k + 1, l ++ [a], lo1, hi1, rfl, by omega, hw2, hu1, by omega, HZN, HI, HB, rfl⟩ (.cons rfl (.cons rfl (.cons rfl (.cons rfl (.cons rfl (.cons rfl (.cons rfl (.cons rfl (.cons rfl .nil)))))))))
          · rintro rfl
            have HIz := HI
            clear HI
            have HZI := Below.refl w11.heap.size w11
            refine Fw.alloc ze30 rfl ?_
            intro w21 gy egy Hy hb
            have bgy : w11.heap.size ≤ gy := by omega
            have bNgy : w6.heap.size ≤ gy := by have := HZN.size; omega
            have lgy : w.heap.size ≤ gy := by have := HB.size; omega
            replace HZN := HZN.trans (hb.mono HZN.size)
            replace HZI := HZI.trans (hb.mono HZI.size)
            replace HB := HB.trans (hb.mono HB.size)
            clear hb
            clear egy
            refine Fw.storeW sz30 rfl rfl Hy rfl rfl (by exact Fw.oneCells rfl) ?_
            intro w22 N_ hc
            replace HZN := HZN.trans (hc.below (B := w6.heap.size) (fun k e => by omega) HZN.size)
            replace HZI := HZI.trans (hc.below (B := w11.heap.size) (fun k e => by omega) HZI.size)
            replace HB := HB.trans (hc.below (B := w.heap.size) (fun k e => by omega) HB.size)
            clear hc
            clear Hy
            have Hy := N_
            clear N_
            replace Hy : Blk w22 gy 30 #[.string tx, .slice An n cn] := Hy
            refine Fw.s (Fw.val_assign rfl) rfl ?_
            refine Fw.nil ?_
            refine hK43 _ _ (Fw.FC.sub (f' := [(22, _), (21, _), (20, _), (19, _), (114, _), (113, _), (112, _), (18, _), (17, _), (15, _), (13, _), (3, _), (2, _)]) (.cons rfl (.cons rfl (.cons rfl (.cons rfl (.cons rfl (.cons rfl (.cons rfl (.cons rfl (.cons rfl (.cons rfl (.cons rfl (.cons rfl (.cons rfl .nil))))))))))))) ?_)
            refine Fw.seq fun _ hK63 => ?_
            refine Fw.seq fun _ hK64 => ?_
            have HI := HIz.low HZI
            clear HIz HZI
            refine Fw.region ?_
            refine Fw.s (Fw.val_move rfl) rfl ?_
            refine Fw.s (Fw.val_not rfl) rfl ?_
            refine Fw.nil ?_
            refine hK64 _ _ ?_
            refine Fw.condT rfl ?_
            refine Fw.exit ?_
            refine Fw.X_exit ?_
            refine Fw.X_blockO rfl ?_
            refine Fw.X_exit ?_
            refine Fw.X_exit ?_
            refine Fw.X_block ?_
            refine hK34 _ _ (Fw.FC.sub (f' := [(18, _), (17, _), (13, _), (3, _)]) (.cons rfl (.cons rfl (.cons rfl (.cons rfl .nil)))) ?_)
            refine Fw.seq fun _ hK65 => ?_
            refine Fw.region ?_
            refine Fw.s (Fw.val_move rfl) rfl ?_
            refine Fw.call cf14 rfl rfl (result_any _ _ g nm ver qs' l HI hv' hw (by omega)) ?_
            rintro e_ w23 ⟨u, cd, be, rfl, hbe, hrs, hb⟩
            refine ⟨_, rfl, ?_⟩
            replace HZN := HZN.trans (hb.mono HZN.size)
            replace Hy := Hy.low hb
            replace HI := HI.low hb
            replace HB := HB.trans (hb.mono HB.size)
            clear hb
            refine Fw.s (Fw.val_move rfl) rfl ?_
            refine Fw.s (Fw.val_extract rfl rfl) rfl ?_
            refine Fw.s (Fw.val_extract rfl rfl) rfl ?_
            refine Fw.s (Fw.val_extract rfl rfl) rfl ?_
            refine Fw.b2 ?_ ?_
            · rintro rfl
              refine Fw.s (Fw.val_assign rfl) rfl ?_
              refine Fw.s (Fw.val_assign rfl) rfl ?_
              refine Fw.s (Fw.val_assign rfl) rfl ?_
              refine Fw.nil ?_
              refine hK65 _ _ (Fw.FC.sub (f' := [(28, _), (27, _), (26, _), (18, _), (17, _), (13, _), (3, _)]) (.cons rfl (.cons rfl (.cons rfl (.cons rfl (.cons rfl (.cons rfl (.cons rfl .nil))))))) ?_)
              refine Fw.seq fun _ hK66 => ?_
              refine Fw.seq fun _ hK67 => ?_
              refine Fw.region ?_
              refine Fw.s (Fw.val_move rfl) rfl ?_
              refine Fw.call cf10 rfl rfl (question_any _ _ g nm ver qs' l HI hv' hw) ?_
              rintro e_ w24 ⟨tx2, An2, n2, cn2, bq2, rfl, hbq2, hbn2, hb⟩
              refine ⟨_, rfl, ?_⟩
              replace HZN := HZN.trans (hb.mono HZN.size)
              replace Hy := Hy.low hb
              replace HI := HI.low hb
              replace HB := HB.trans (hb.mono HB.size)
              clear hb
              refine Fw.s (Fw.val_move rfl) rfl ?_
              refine Fw.s (Fw.val_extract rfl rfl) rfl ?_
              refine Fw.s (Fw.val_extract rfl rfl) rfl ?_
              refine Fw.bF (by cases bq2 with | false => rfl | true => exact absurd (hbe.1 rfl) (hbq2.1 rfl)) ?_
              have HIz := HI
              clear HI
              have HZI := Below.refl w24.heap.size w24
              refine Fw.alloc ze30 rfl ?_
              intro w25 gz egz Hz hb
              have bgz : w24.heap.size ≤ gz := by omega
              have bNgz : w6.heap.size ≤ gz := by have := HZN.size; omega
              have n_gy_gz : gy < gz := by have := Hy.lt; omega
              have lgz : w.heap.size ≤ gz := by have := HB.size; omega
              replace HZN := HZN.trans (hb.mono HZN.size)
              replace Hy := Hy.low hb
              replace HZI := HZI.trans (hb.mono HZI.size)
              replace HB := HB.trans (hb.mono HB.size)
              clear hb
              clear egz
              refine Fw.storeW sz30 rfl rfl Hz rfl rfl (by exact Fw.oneCells rfl) ?_
              intro w26 N_ hc
              replace HZN := HZN.trans (hc.below (B := w6.heap.size) (fun k e => by omega) HZN.size)
              replace Hy := Hy.chg hc (by omega)
              replace HZI := HZI.trans (hc.below (B := w24.heap.size) (fun k e => by omega) HZI.size)
              replace HB := HB.trans (hc.below (B := w.heap.size) (fun k e => by omega) HB.size)
              clear hc
              clear Hz
              have Hz := N_
              clear N_
              replace Hz : Blk w26 gz 30 #[.string tx2, .slice An2 n2 cn2] := Hz
              refine Fw.s (Fw.val_assign rfl) rfl ?_
              refine Fw.nil ?_
              refine hK67 _ _ ?_
              refine Fw.seq fun _ hK68 => ?_
              have HI := HIz.low HZI
              clear HIz HZI
              refine Fw.region ?_
              refine Fw.s (Fw.val_move rfl) rfl ?_
              refine Fw.s (Fw.val_move rfl) rfl ?_
              refine Fw.s (Fw.Val.F (Fw.val_bin rfl rfl (Fw.b_eqlB Try.underlying4)) (by decide)) rfl ?_
              refine Fw.nil ?_
              refine hK68 _ _ (Fw.FC.sub (f' := [(217, _), (28, _), (27, _), (26, _), (18, _), (17, _), (13, _), (3, _)]) (.cons rfl (.cons rfl (.cons rfl (.cons rfl (.cons rfl (.cons rfl (.cons rfl (.cons rfl .nil)))))))) ?_)
              refine Fw.condF rfl ?_
              refine Fw.skip ?_
              refine hK66 _ _ ?_
              refine Fw.seq fun _ hK69 => ?_
              refine Fw.seq fun _ hK70 => ?_
              refine Fw.region ?_
              refine Fw.s (Fw.val_move rfl) rfl ?_
              refine Fw.s (Fw.val_move rfl) rfl ?_
              refine Fw.gT (d := 219) rfl rfl ?_
              refine Fw.s (Fw.val_move rfl) rfl ?_
              refine Fw.gT (d := 219) rfl rfl ?_
              refine Fw.s (Fw.val_move rfl) rfl ?_
              refine Fw.gT (d := 219) rfl rfl ?_
              refine Fw.s (Fw.Val.F (Fw.val_bin rfl rfl Fw.b_neq) (by have := (hu.ended (hbe.1 rfl) hrs).1; omega)) rfl ?_
              refine Fw.gT (d := 219) rfl rfl ?_
              refine Fw.s (Fw.val_move rfl) rfl ?_
              refine Fw.gT (d := 223) rfl rfl ?_
              refine Fw.s (Fw.val_move rfl) rfl ?_
              refine Fw.gT (d := 223) rfl rfl ?_
              refine Fw.s (Fw.val_move rfl) rfl ?_
              refine Fw.gT (d := 223) rfl rfl ?_
              refine Fw.s (Fw.Val.F (Fw.val_bin rfl rfl Fw.b_neq) (by have := (hu.ended (hbe.1 rfl) hrs).2; omega)) rfl ?_
              refine Fw.gT (d := 219) rfl rfl ?_
              refine Fw.s (Fw.val_pickF rfl rfl) rfl ?_
              refine Fw.gT (d := 219) rfl rfl ?_
              refine Fw.s (Fw.val_move rfl) rfl ?_
              refine Fw.gT (d := 228) rfl rfl ?_
              refine Fw.s (Fw.val_move rfl) rfl ?_
              refine Fw.gT (d := 228) rfl rfl ?_
              refine Fw.s (Fw.Val.F (Fw.val_bin rfl rfl Fw.b_eqlS) (by exact fun h_ => (hrs.code hv' (hbe.1 rfl)) ((Tk.empty_iff rfl).1 h_))) rfl ?_
              refine Fw.gT (d := 219) rfl rfl ?_
              refine Fw.s (Fw.val_pickF rfl rfl) rfl ?_
              refine Fw.s (Fw.val_pickT rfl rfl) rfl ?_
              refine Fw.nil ?_
              refine hK70 _ _ (Fw.FC.sub (f' := [(232, _), (28, _), (27, _), (26, _), (13, _), (3, _)]) (.cons rfl (.cons rfl (.cons rfl (.cons rfl (.cons rfl (.cons rfl .nil)))))) ?_)
              refine Fw.condF rfl ?_
              refine Fw.skip ?_
              refine hK69 _ _ ?_
              refine Fw.seq fun _ hK71 => ?_
              have Ht := HtN.low HZN
              have hwq : Tk.Wy qs l := by rw [← Tk.Wy_nf, ← hnf, Tk.Wy_nf]; exact hw
              refine Fw.regionH (by kernel_rfl) ?_
              have R_Hy := Hy
              have R_Hz := Hz
              have R_Ht := Ht
              have R_HB := HB
              intro w27 hb
              have HS := hb
              replace HZN := HZN.trans (hb.mono HZN.size)
              replace Hy := Hy.low hb
              replace Hz := Hz.low hb
              replace HI := HI.low hb
              replace Ht := Ht.low hb
              replace HB := HB.trans (hb.mono HB.size)
              clear hb
              refine Fw.hTk 0 rfl rfl (Fw.yV (Fw.hLdA ag24 rfl (Fw.rdBlk R_Ht) rfl)) rfl ?_
              refine Fw.hTk 1 rfl rfl (Fw.yV (Fw.val_move rfl)) rfl ?_
              refine Fw.hAll1 2 (by kernel_rfl) ?_
              refine Fw.hOp 2 rfl ?_
              refine Fw.call cf11 rfl rfl (answers_any _ _ g nm ver qs' l HI (by omega)) ?_
              rintro e_ w28 ⟨A5_, c5_, rfl, HO5, hb⟩
              refine ⟨_, rfl, ?_⟩
              replace HZN := HZN.trans (hb.mono HZN.size)
              replace Hy := Hy.low hb
              replace Hz := Hz.low hb
              replace HI := HI.low hb
              replace Ht := Ht.low hb
              replace HS := HS.trans (hb.mono HS.size)
              replace HB := HB.trans (hb.mono HB.size)
              clear hb
              refine Fw.hNext HS ?_
              refine Fw.hAll1 3 (by kernel_rfl) ?_
              refine Fw.hOp 3 rfl ?_
              refine Fw.call cf15 rfl rfl (replay_any _ nm ver Tq qs cq (hq.low HB) hql ha hg A5_ l c5_ (Rd.of_own HO5) hwq (by omega)) ?_
              rintro e_ w29 ⟨g2, qs2, rfl, hnf2, HI2, hb⟩
              refine ⟨_, rfl, ?_⟩
              replace HZN := HZN.trans (hb.mono HZN.size)
              replace Hy := Hy.low hb
              replace Hz := Hz.low hb
              replace HI := HI.low hb
              replace Ht := Ht.low hb
              replace HS := HS.trans (hb.mono HS.size)
              replace HO5 := own_below HO5 hb (Nat.le_refl _)
              replace HB := HB.trans (hb.mono HB.size)
              clear hb
              have hv2 : Tk.VP nm ver qs2 := by rw [← Tk.VP_nf, hnf2, Tk.VP_nf]; exact hg.1
              have hw3 : Tk.Wy qs2 l := by rw [← Tk.Wy_nf, hnf2, Tk.Wy_nf]; exact hwq
              have hcu2 : Tk.cur qs2 l = Tk.cur qs' l := by rw [← Tk.cur_nf, hnf2, ← hnf, Tk.cur_nf]
              refine Fw.hNext HS ?_
              refine Fw.hTk 4 rfl rfl (Fw.yV (Fw.val_move rfl)) rfl ?_
              refine Fw.hTk 5 rfl rfl (Fw.yV (Fw.val_extract rfl rfl)) rfl ?_
              refine Fw.hTk 6 rfl rfl (Fw.yV (Fw.val_extract rfl rfl)) rfl ?_
              refine Fw.hTk 7 rfl rfl (Fw.yV (Fw.val_assign rfl)) rfl ?_
              refine Fw.hTk 8 rfl rfl (Fw.yV (Fw.val_assign rfl)) rfl ?_
              refine Fw.hDone (by kernel_rfl) ?_
              refine hK71 _ _ (Fw.FC.sub (f' := [(32, _), (31, _), (28, _), (27, _), (26, _)]) (.cons rfl (.cons rfl (.cons rfl (.cons rfl (.cons rfl .nil))))) ?_)
              refine Fw.seq fun _ hK72 => ?_
              refine Fw.seq fun _ hK73 => ?_
              refine Fw.region ?_
              refine Fw.s (Fw.val_move rfl) rfl ?_
              refine Fw.s (Fw.Val.F (Fw.val_bin rfl rfl Fw.b_neq) (by omega)) rfl ?_
              refine Fw.s (Fw.val_move rfl) rfl ?_
              refine Fw.gT (d := 242) rfl rfl ?_
              refine Fw.s (Fw.val_move rfl) rfl ?_
              refine Fw.gT (d := 242) rfl rfl ?_
              refine Fw.s (Fw.val_bin rfl rfl (Fw.b_nilP Try.underlying34)) rfl ?_
              refine Fw.s (Fw.val_pickF rfl rfl) rfl ?_
              refine Fw.nil ?_
              refine hK73 _ _ ?_
              refine Fw.condF rfl ?_
              refine Fw.skip ?_
              refine hK72 _ _ (Fw.FC.sub (f' := [(31, _), (28, _), (27, _), (26, _)]) (.cons rfl (.cons rfl (.cons rfl (.cons rfl .nil)))) ?_)
              refine Fw.seq fun _ hK74 => ?_
              refine Fw.region ?_
              refine Fw.s (Fw.val_move rfl) rfl ?_
              refine Fw.call cf14 rfl rfl (result_any _ _ g2 nm ver qs2 l HI2 hv2 hw3 (by omega)) ?_
              rintro e_ w30 ⟨u2, cd2, be2, rfl, hbe2, hrs2, hb⟩
              refine ⟨_, rfl, ?_⟩
              replace HZN := HZN.trans (hb.mono HZN.size)
              replace Hy := Hy.low hb
              replace Hz := Hz.low hb
              replace HI := HI.low hb
              replace Ht := Ht.low hb
              replace HO5 := own_below HO5 hb (Nat.le_refl _)
              replace HI2 := HI2.low hb
              replace HB := HB.trans (hb.mono HB.size)
              clear hb
              have hrs3 : Tk.Rs qs' l u2 cd2 := by rw [← Tk.Rs_nf, hnf, ← hnf2, Tk.Rs_nf]; exact hrs2
              obtain ⟨er1, er2⟩ := hrs3.uniq hrs
              refine Fw.s (Fw.val_move rfl) rfl ?_
              refine Fw.s (Fw.val_extract rfl rfl) rfl ?_
              refine Fw.s (Fw.val_extract rfl rfl) rfl ?_
              refine Fw.s (Fw.val_extract rfl rfl) rfl ?_
              refine Fw.bT (by exact hbe2.2 (hcu2.trans (hbe.1 rfl))) ?_
              refine Fw.s (Fw.val_assign rfl) rfl ?_
              refine Fw.s (Fw.val_assign rfl) rfl ?_
              refine Fw.s (Fw.val_assign rfl) rfl ?_
              refine Fw.nil ?_
              refine hK74 _ _ (Fw.FC.sub (f' := [(35, _), (34, _), (33, _), (28, _), (27, _), (26, _)]) (.cons rfl (.cons rfl (.cons rfl (.cons rfl (.cons rfl (.cons rfl .nil)))))) ?_)
              refine Fw.seq fun _ hK75 => ?_
              refine Fw.region ?_
              refine Fw.s (Fw.val_move rfl) rfl ?_
              refine Fw.s (Fw.val_move rfl) rfl ?_
              refine Fw.s (Fw.Val.T (Fw.val_bin rfl rfl Fw.b_eql) (by exact er1)) rfl ?_
              refine Fw.s (Fw.val_move rfl) rfl ?_
              refine Fw.gT (d := 255) rfl rfl ?_
              refine Fw.s (Fw.val_move rfl) rfl ?_
              refine Fw.gT (d := 255) rfl rfl ?_
              refine Fw.s (Fw.val_move rfl) rfl ?_
              refine Fw.gT (d := 255) rfl rfl ?_
              refine Fw.s (Fw.Val.T (Fw.val_bin rfl rfl Fw.b_eqlS) (by exact er2)) rfl ?_
              refine Fw.s (Fw.val_pickT rfl rfl) rfl ?_
              refine Fw.s (Fw.val_move rfl) rfl ?_
              refine Fw.gT (d := 260) rfl rfl ?_
              refine Fw.s (Fw.val_move rfl) rfl ?_
              refine Fw.gT (d := 260) rfl rfl ?_
              refine Fw.s (Fw.val_move rfl) rfl ?_
              refine Fw.gT (d := 260) rfl rfl ?_
              refine Fw.s (Fw.Val.T (Fw.val_bin rfl rfl (Fw.b_eqlB Try.underlying4)) (by decide)) rfl ?_
              refine Fw.s (Fw.val_pickT rfl rfl) rfl ?_
              refine Fw.s (Fw.val_assign rfl) rfl ?_
              refine Fw.nil ?_
              refine hK75 _ _ (Fw.FC.sub (f' := [(6, _)]) (.cons rfl .nil) ?_)
              refine Fw.ret ?_
              refine Fw.ret_ [.tmp 6] [_] Try.results3 (.tmp rfl .nil) ?_
              exact ⟨rfl, HB⟩
            · rintro rfl
              refine Fw.s (Fw.val_assign rfl) rfl ?_
              refine Fw.s (Fw.val_assign rfl) rfl ?_
              refine Fw.s (Fw.val_assign rfl) rfl ?_
              refine Fw.nil ?_
              refine hK65 _ _ (Fw.FC.sub (f' := [(28, _), (27, _), (26, _), (18, _), (17, _), (13, _), (3, _)]) (.cons rfl (.cons rfl (.cons rfl (.cons rfl (.cons rfl (.cons rfl (.cons rfl .nil))))))) ?_)
              refine Fw.seq fun _ hK76 => ?_
              refine Fw.seq fun _ hK77 => ?_
              refine Fw.region ?_
              refine Fw.s (Fw.val_move rfl) rfl ?_
              refine Fw.call cf10 rfl rfl (question_any _ _ g nm ver qs' l HI hv' hw) ?_
              rintro e_ w31 ⟨tx2, An2, n2, cn2, bq2, rfl, hbq2, hbn2, hb⟩
              refine ⟨_, rfl, ?_⟩
              replace HZN := HZN.trans (hb.mono HZN.size)
              replace Hy := Hy.low hb
              replace HI := HI.low hb
              replace HB := HB.trans (hb.mono HB.size)
              clear hb
              refine Fw.s (Fw.val_move rfl) rfl ?_
              refine Fw.s (Fw.val_extract rfl rfl) rfl ?_
              refine Fw.s (Fw.val_extract rfl rfl) rfl ?_
              refine Fw.bT (by cases bq2 with | true => rfl | false => exact Classical.byContradiction fun _ => absurd (hbe.2 (Classical.byContradiction fun h_ => absurd (hbq2.2 h_) (by decide))) (by decide)) ?_
              have HIz := HI
              clear HI
              have HZI := Below.refl w31.heap.size w31
              refine Fw.alloc ze30 rfl ?_
              intro w32 gz egz Hz hb
              have bgz : w31.heap.size ≤ gz := by omega
              have bNgz : w6.heap.size ≤ gz := by have := HZN.size; omega
              have n_gy_gz : gy < gz := by have := Hy.lt; omega
              have lgz : w.heap.size ≤ gz := by have := HB.size; omega
              replace HZN := HZN.trans (hb.mono HZN.size)
              replace Hy := Hy.low hb
              replace HZI := HZI.trans (hb.mono HZI.size)
              replace HB := HB.trans (hb.mono HB.size)
              clear hb
              clear egz
              refine Fw.storeW sz30 rfl rfl Hz rfl rfl (by exact Fw.oneCells rfl) ?_
              intro w33 N_ hc
              replace HZN := HZN.trans (hc.below (B := w6.heap.size) (fun k e => by omega) HZN.size)
              replace Hy := Hy.chg hc (by omega)
              replace HZI := HZI.trans (hc.below (B := w31.heap.size) (fun k e => by omega) HZI.size)
              replace HB := HB.trans (hc.below (B := w.heap.size) (fun k e => by omega) HB.size)
              clear hc
              clear Hz
              have Hz := N_
              clear N_
              replace Hz : Blk w33 gz 30 #[.string tx2, .slice An2 n2 cn2] := Hz
              refine Fw.s (Fw.val_assign rfl) rfl ?_
              refine Fw.nil ?_
              refine hK77 _ _ ?_
              refine Fw.seq fun _ hK78 => ?_
              have HI := HIz.low HZI
              clear HIz HZI
              refine Fw.region ?_
              refine Fw.s (Fw.val_move rfl) rfl ?_
              refine Fw.s (Fw.val_move rfl) rfl ?_
              refine Fw.s (Fw.Val.F (Fw.val_bin rfl rfl (Fw.b_eqlB Try.underlying4)) (by decide)) rfl ?_
              refine Fw.nil ?_
              refine hK78 _ _ (Fw.FC.sub (f' := [(217, _), (28, _), (27, _), (26, _), (18, _), (17, _), (13, _), (3, _)]) (.cons rfl (.cons rfl (.cons rfl (.cons rfl (.cons rfl (.cons rfl (.cons rfl (.cons rfl .nil)))))))) ?_)
              refine Fw.condF rfl ?_
              refine Fw.skip ?_
              refine hK76 _ _ ?_
              refine Fw.seq fun _ hK79 => ?_
              refine Fw.seq fun _ hK80 => ?_
              refine Fw.region ?_
              refine Fw.s (Fw.val_move rfl) rfl ?_
              refine Fw.s (Fw.val_move rfl) rfl ?_
              refine Fw.gF (d := 219) rfl rfl rfl rfl ?_
              refine Fw.gF (d := 219) rfl rfl rfl rfl ?_
              refine Fw.gF (d := 219) rfl rfl rfl rfl ?_
              refine Fw.gF (d := 219) rfl rfl rfl rfl ?_
              refine Fw.gU (d := 223) rfl rfl rfl ?_
              refine Fw.gU (d := 223) rfl rfl rfl ?_
              refine Fw.gU (d := 223) rfl rfl rfl ?_
              refine Fw.gF (d := 219) rfl rfl rfl rfl ?_
              refine Fw.gF (d := 219) rfl rfl rfl rfl ?_
              refine Fw.gU (d := 228) rfl rfl rfl ?_
              refine Fw.gU (d := 228) rfl rfl rfl ?_
              refine Fw.gF (d := 219) rfl rfl rfl rfl ?_
              refine Fw.s (Fw.val_pickF rfl rfl) rfl ?_
              refine Fw.nil ?_
              refine hK80 _ _ (Fw.FC.sub (f' := [(232, _), (28, _), (27, _), (26, _), (13, _), (3, _)]) (.cons rfl (.cons rfl (.cons rfl (.cons rfl (.cons rfl (.cons rfl .nil)))))) ?_)
              refine Fw.condF rfl ?_
              refine Fw.skip ?_
              refine hK79 _ _ ?_
              refine Fw.seq fun _ hK81 => ?_
              have Ht := HtN.low HZN
              have hwq : Tk.Wy qs l := by rw [← Tk.Wy_nf, ← hnf, Tk.Wy_nf]; exact hw
              refine Fw.regionH (by kernel_rfl) ?_
              have R_Hy := Hy
              have R_Hz := Hz
              have R_Ht := Ht
              have R_HB := HB
              intro w34 hb
              have HS := hb
              replace HZN := HZN.trans (hb.mono HZN.size)
              replace Hy := Hy.low hb
              replace Hz := Hz.low hb
              replace HI := HI.low hb
              replace Ht := Ht.low hb
              replace HB := HB.trans (hb.mono HB.size)
              clear hb
              refine Fw.hTk 0 rfl rfl (Fw.yV (Fw.hLdA ag24 rfl (Fw.rdBlk R_Ht) rfl)) rfl ?_
              refine Fw.hTk 1 rfl rfl (Fw.yV (Fw.val_move rfl)) rfl ?_
              refine Fw.hAll1 2 (by kernel_rfl) ?_
              refine Fw.hOp 2 rfl ?_
              refine Fw.call cf11 rfl rfl (answers_any _ _ g nm ver qs' l HI (by omega)) ?_
              rintro e_ w35 ⟨A5_, c5_, rfl, HO5, hb⟩
              refine ⟨_, rfl, ?_⟩
              replace HZN := HZN.trans (hb.mono HZN.size)
              replace Hy := Hy.low hb
              replace Hz := Hz.low hb
              replace HI := HI.low hb
              replace Ht := Ht.low hb
              replace HS := HS.trans (hb.mono HS.size)
              replace HB := HB.trans (hb.mono HB.size)
              clear hb
              refine Fw.hNext HS ?_
              refine Fw.hAll1 3 (by kernel_rfl) ?_
              refine Fw.hOp 3 rfl ?_
              refine Fw.call cf15 rfl rfl (replay_any _ nm ver Tq qs cq (hq.low HB) hql ha hg A5_ l c5_ (Rd.of_own HO5) hwq (by omega)) ?_
              rintro e_ w36 ⟨g2, qs2, rfl, hnf2, HI2, hb⟩
              refine ⟨_, rfl, ?_⟩
              replace HZN := HZN.trans (hb.mono HZN.size)
              replace Hy := Hy.low hb
              replace Hz := Hz.low hb
              replace HI := HI.low hb
              replace Ht := Ht.low hb
              replace HS := HS.trans (hb.mono HS.size)
              replace HO5 := own_below HO5 hb (Nat.le_refl _)
              replace HB := HB.trans (hb.mono HB.size)
              clear hb
              have hv2 : Tk.VP nm ver qs2 := by rw [← Tk.VP_nf, hnf2, Tk.VP_nf]; exact hg.1
              have hw3 : Tk.Wy qs2 l := by rw [← Tk.Wy_nf, hnf2, Tk.Wy_nf]; exact hwq
              have hcu2 : Tk.cur qs2 l = Tk.cur qs' l := by rw [← Tk.cur_nf, hnf2, ← hnf, Tk.cur_nf]
              refine Fw.hNext HS ?_
              refine Fw.hTk 4 rfl rfl (Fw.yV (Fw.val_move rfl)) rfl ?_
              refine Fw.hTk 5 rfl rfl (Fw.yV (Fw.val_extract rfl rfl)) rfl ?_
              refine Fw.hTk 6 rfl rfl (Fw.yV (Fw.val_extract rfl rfl)) rfl ?_
              refine Fw.hTk 7 rfl rfl (Fw.yV (Fw.val_assign rfl)) rfl ?_
              refine Fw.hTk 8 rfl rfl (Fw.yV (Fw.val_assign rfl)) rfl ?_
              refine Fw.hDone (by kernel_rfl) ?_
              refine hK81 _ _ (Fw.FC.sub (f' := [(32, _), (31, _), (28, _), (27, _), (26, _)]) (.cons rfl (.cons rfl (.cons rfl (.cons rfl (.cons rfl .nil))))) ?_)
              refine Fw.seq fun _ hK82 => ?_
              refine Fw.seq fun _ hK83 => ?_
              refine Fw.region ?_
              refine Fw.s (Fw.val_move rfl) rfl ?_
              refine Fw.s (Fw.Val.F (Fw.val_bin rfl rfl Fw.b_neq) (by omega)) rfl ?_
              refine Fw.s (Fw.val_move rfl) rfl ?_
              refine Fw.gT (d := 242) rfl rfl ?_
              refine Fw.s (Fw.val_move rfl) rfl ?_
              refine Fw.gT (d := 242) rfl rfl ?_
              refine Fw.s (Fw.val_bin rfl rfl (Fw.b_nilP Try.underlying34)) rfl ?_
              refine Fw.s (Fw.val_pickF rfl rfl) rfl ?_
              refine Fw.nil ?_
              refine hK83 _ _ ?_
              refine Fw.condF rfl ?_
              refine Fw.skip ?_
              refine hK82 _ _ (Fw.FC.sub (f' := [(31, _), (28, _), (27, _), (26, _)]) (.cons rfl (.cons rfl (.cons rfl (.cons rfl .nil)))) ?_)
              refine Fw.seq fun _ hK84 => ?_
              refine Fw.region ?_
              refine Fw.s (Fw.val_move rfl) rfl ?_
              refine Fw.call cf14 rfl rfl (result_any _ _ g2 nm ver qs2 l HI2 hv2 hw3 (by omega)) ?_
              rintro e_ w37 ⟨u2, cd2, be2, rfl, hbe2, hrs2, hb⟩
              refine ⟨_, rfl, ?_⟩
              replace HZN := HZN.trans (hb.mono HZN.size)
              replace Hy := Hy.low hb
              replace Hz := Hz.low hb
              replace HI := HI.low hb
              replace Ht := Ht.low hb
              replace HO5 := own_below HO5 hb (Nat.le_refl _)
              replace HI2 := HI2.low hb
              replace HB := HB.trans (hb.mono HB.size)
              clear hb
              have hrs3 : Tk.Rs qs' l u2 cd2 := by rw [← Tk.Rs_nf, hnf, ← hnf2, Tk.Rs_nf]; exact hrs2
              obtain ⟨er1, er2⟩ := hrs3.uniq hrs
              refine Fw.s (Fw.val_move rfl) rfl ?_
              refine Fw.s (Fw.val_extract rfl rfl) rfl ?_
              refine Fw.s (Fw.val_extract rfl rfl) rfl ?_
              refine Fw.s (Fw.val_extract rfl rfl) rfl ?_
              refine Fw.bF (by cases be2 with | false => rfl | true => exact absurd (hbe.2 (hcu2.symm.trans (hbe2.1 rfl))) (by decide)) ?_
              refine Fw.s (Fw.val_assign rfl) rfl ?_
              refine Fw.s (Fw.val_assign rfl) rfl ?_
              refine Fw.s (Fw.val_assign rfl) rfl ?_
              refine Fw.nil ?_
              refine hK84 _ _ (Fw.FC.sub (f' := [(35, _), (34, _), (33, _), (28, _), (27, _), (26, _)]) (.cons rfl (.cons rfl (.cons rfl (.cons rfl (.cons rfl (.cons rfl .nil)))))) ?_)
              refine Fw.seq fun _ hK85 => ?_
              refine Fw.region ?_
              refine Fw.s (Fw.val_move rfl) rfl ?_
              refine Fw.s (Fw.val_move rfl) rfl ?_
              refine Fw.s (Fw.Val.T (Fw.val_bin rfl rfl Fw.b_eql) (by exact er1)) rfl ?_
              refine Fw.s (Fw.val_move rfl) rfl ?_
              refine Fw.gT (d := 255) rfl rfl ?_
              refine Fw.s (Fw.val_move rfl) rfl ?_
              refine Fw.gT (d := 255) rfl rfl ?_
              refine Fw.s (Fw.val_move rfl) rfl ?_
              refine Fw.gT (d := 255) rfl rfl ?_
              refine Fw.s (Fw.Val.T (Fw.val_bin rfl rfl Fw.b_eqlS) (by exact er2)) rfl ?_
              refine Fw.s (Fw.val_pickT rfl rfl) rfl ?_
              refine Fw.s (Fw.val_move rfl) rfl ?_
              refine Fw.gT (d := 260) rfl rfl ?_
              refine Fw.s (Fw.val_move rfl) rfl ?_
              refine Fw.gT (d := 260) rfl rfl ?_
              refine Fw.s (Fw.val_move rfl) rfl ?_
              refine Fw.gT (d := 260) rfl rfl ?_
              refine Fw.s (Fw.Val.T (Fw.val_bin rfl rfl (Fw.b_eqlB Try.underlying4)) (by decide)) rfl ?_
              refine Fw.s (Fw.val_pickT rfl rfl) rfl ?_
              refine Fw.s (Fw.val_assign rfl) rfl ?_
              refine Fw.nil ?_
              refine hK85 _ _ (Fw.FC.sub (f' := [(6, _)]) (.cons rfl .nil) ?_)
              refine Fw.ret ?_
              refine Fw.ret_ [.tmp 6] [_] Try.results3 (.tmp rfl .nil) ?_
              exact ⟨rfl, HB⟩
        · rintro hlt2
          refine Fw.nil ?_
          refine hK37 _ _ ?_
          refine Fw.seq fun _ hK86 => ?_
          refine Fw.condF rfl ?_
          refine Fw.exit ?_
          refine Fw.X_exit ?_
          refine Fw.X_exit ?_
          refine Fw.X_block ?_
          refine hK34 _ _ ?_
          refine Fw.seq fun _ hK87 => ?_
          refine Fw.region ?_
          refine Fw.s (Fw.val_move rfl) rfl ?_
          refine Fw.call cf14 rfl rfl (result_any _ _ g nm ver qs' l HI hv' hw (by omega)) ?_
          rintro e_ w38 ⟨u, cd, be, rfl, hbe, hrs, hb⟩
          refine ⟨_, rfl, ?_⟩
          replace HZN := HZN.trans (hb.mono HZN.size)
          replace HI := HI.low hb
          replace HB := HB.trans (hb.mono HB.size)
          clear hb
          refine Fw.s (Fw.val_move rfl) rfl ?_
          refine Fw.s (Fw.val_extract rfl rfl) rfl ?_
          refine Fw.s (Fw.val_extract rfl rfl) rfl ?_
          refine Fw.s (Fw.val_extract rfl rfl) rfl ?_
          refine Fw.b2 ?_ ?_
          · rintro rfl
            refine Fw.s (Fw.val_assign rfl) rfl ?_
            refine Fw.s (Fw.val_assign rfl) rfl ?_
            refine Fw.s (Fw.val_assign rfl) rfl ?_
            refine Fw.nil ?_
            refine hK87 _ _ (Fw.FC.sub (f' := [(28, _), (27, _), (26, _), (18, _), (17, _), (13, _), (3, _)]) (.cons rfl (.cons rfl (.cons rfl (.cons rfl (.cons rfl (.cons rfl (.cons rfl .nil))))))) ?_)
            refine Fw.seq fun _ hK88 => ?_
            refine Fw.seq fun _ hK89 => ?_
            refine Fw.region ?_
            refine Fw.s (Fw.val_move rfl) rfl ?_
            refine Fw.call cf10 rfl rfl (question_any _ _ g nm ver qs' l HI hv' hw) ?_
            rintro e_ w39 ⟨tx2, An2, n2, cn2, bq2, rfl, hbq2, hbn2, hb⟩
            refine ⟨_, rfl, ?_⟩
            replace HZN := HZN.trans (hb.mono HZN.size)
            replace HI := HI.low hb
            replace HB := HB.trans (hb.mono HB.size)
            clear hb
            refine Fw.s (Fw.val_move rfl) rfl ?_
            refine Fw.s (Fw.val_extract rfl rfl) rfl ?_
            refine Fw.s (Fw.val_extract rfl rfl) rfl ?_
            refine Fw.bF (by cases bq2 with | false => rfl | true => exact absurd (hbe.1 rfl) (hbq2.1 rfl)) ?_
            have HIz := HI
            clear HI
            have HZI := Below.refl w39.heap.size w39
            refine Fw.alloc ze30 rfl ?_
            intro w40 gz egz Hz hb
            have bgz : w39.heap.size ≤ gz := by omega
            have bNgz : w6.heap.size ≤ gz := by have := HZN.size; omega
            have lgz : w.heap.size ≤ gz := by have := HB.size; omega
            replace HZN := HZN.trans (hb.mono HZN.size)
            replace HZI := HZI.trans (hb.mono HZI.size)
            replace HB := HB.trans (hb.mono HB.size)
            clear hb
            clear egz
            refine Fw.storeW sz30 rfl rfl Hz rfl rfl (by exact Fw.oneCells rfl) ?_
            intro w41 N_ hc
            replace HZN := HZN.trans (hc.below (B := w6.heap.size) (fun k e => by omega) HZN.size)
            replace HZI := HZI.trans (hc.below (B := w39.heap.size) (fun k e => by omega) HZI.size)
            replace HB := HB.trans (hc.below (B := w.heap.size) (fun k e => by omega) HB.size)
            clear hc
            clear Hz
            have Hz := N_
            clear N_
            replace Hz : Blk w41 gz 30 #[.string tx2, .slice An2 n2 cn2] := Hz
            refine Fw.s (Fw.val_assign rfl) rfl ?_
            refine Fw.nil ?_
            refine hK89 _ _ ?_
            refine Fw.seq fun _ hK90 => ?_
            have HI := HIz.low HZI
            clear HIz HZI
            refine Fw.region ?_
            refine Fw.s (Fw.val_move rfl) rfl ?_
            refine Fw.s (Fw.val_move rfl) rfl ?_
            refine Fw.s (Fw.Val.F (Fw.val_bin rfl rfl (Fw.b_eqlB Try.underlying4)) (by decide)) rfl ?_
            refine Fw.nil ?_
            refine hK90 _ _ (Fw.FC.sub (f' := [(217, _), (28, _), (27, _), (26, _), (18, _), (17, _), (13, _), (3, _)]) (.cons rfl (.cons rfl (.cons rfl (.cons rfl (.cons rfl (.cons rfl (.cons rfl (.cons rfl .nil)))))))) ?_)
            refine Fw.condF rfl ?_
            refine Fw.skip ?_
            refine hK88 _ _ ?_
            refine Fw.seq fun _ hK91 => ?_
            refine Fw.seq fun _ hK92 => ?_
            refine Fw.region ?_
            refine Fw.s (Fw.val_move rfl) rfl ?_
            refine Fw.s (Fw.val_move rfl) rfl ?_
            refine Fw.gT (d := 219) rfl rfl ?_
            refine Fw.s (Fw.val_move rfl) rfl ?_
            refine Fw.gT (d := 219) rfl rfl ?_
            refine Fw.s (Fw.val_move rfl) rfl ?_
            refine Fw.gT (d := 219) rfl rfl ?_
            refine Fw.s (Fw.Val.F (Fw.val_bin rfl rfl Fw.b_neq) (by have := (hu.ended (hbe.1 rfl) hrs).1; omega)) rfl ?_
            refine Fw.gT (d := 219) rfl rfl ?_
            refine Fw.s (Fw.val_move rfl) rfl ?_
            refine Fw.gT (d := 223) rfl rfl ?_
            refine Fw.s (Fw.val_move rfl) rfl ?_
            refine Fw.gT (d := 223) rfl rfl ?_
            refine Fw.s (Fw.val_move rfl) rfl ?_
            refine Fw.gT (d := 223) rfl rfl ?_
            refine Fw.s (Fw.Val.F (Fw.val_bin rfl rfl Fw.b_neq) (by have := (hu.ended (hbe.1 rfl) hrs).2; omega)) rfl ?_
            refine Fw.gT (d := 219) rfl rfl ?_
            refine Fw.s (Fw.val_pickF rfl rfl) rfl ?_
            refine Fw.gT (d := 219) rfl rfl ?_
            refine Fw.s (Fw.val_move rfl) rfl ?_
            refine Fw.gT (d := 228) rfl rfl ?_
            refine Fw.s (Fw.val_move rfl) rfl ?_
            refine Fw.gT (d := 228) rfl rfl ?_
            refine Fw.s (Fw.Val.F (Fw.val_bin rfl rfl Fw.b_eqlS) (by exact fun h_ => (hrs.code hv' (hbe.1 rfl)) ((Tk.empty_iff rfl).1 h_))) rfl ?_
            refine Fw.gT (d := 219) rfl rfl ?_
            refine Fw.s (Fw.val_pickF rfl rfl) rfl ?_
            refine Fw.s (Fw.val_pickT rfl rfl) rfl ?_
            refine Fw.nil ?_
            refine hK92 _ _ (Fw.FC.sub (f' := [(232, _), (28, _), (27, _), (26, _), (13, _), (3, _)]) (.cons rfl (.cons rfl (.cons rfl (.cons rfl (.cons rfl (.cons rfl .nil)))))) ?_)
            refine Fw.condF rfl ?_
            refine Fw.skip ?_
            refine hK91 _ _ ?_
            refine Fw.seq fun _ hK93 => ?_
            have Ht := HtN.low HZN
            have hwq : Tk.Wy qs l := by rw [← Tk.Wy_nf, ← hnf, Tk.Wy_nf]; exact hw
            refine Fw.regionH (by kernel_rfl) ?_
            have R_Hz := Hz
            have R_Ht := Ht
            have R_HB := HB
            intro w42 hb
            have HS := hb
            replace HZN := HZN.trans (hb.mono HZN.size)
            replace Hz := Hz.low hb
            replace HI := HI.low hb
            replace Ht := Ht.low hb
            replace HB := HB.trans (hb.mono HB.size)
            clear hb
            refine Fw.hTk 0 rfl rfl (Fw.yV (Fw.hLdA ag24 rfl (Fw.rdBlk R_Ht) rfl)) rfl ?_
            refine Fw.hTk 1 rfl rfl (Fw.yV (Fw.val_move rfl)) rfl ?_
            refine Fw.hAll1 2 (by kernel_rfl) ?_
            refine Fw.hOp 2 rfl ?_
            refine Fw.call cf11 rfl rfl (answers_any _ _ g nm ver qs' l HI (by omega)) ?_
            rintro e_ w43 ⟨A5_, c5_, rfl, HO5, hb⟩
            refine ⟨_, rfl, ?_⟩
            replace HZN := HZN.trans (hb.mono HZN.size)
            replace Hz := Hz.low hb
            replace HI := HI.low hb
            replace Ht := Ht.low hb
            replace HS := HS.trans (hb.mono HS.size)
            replace HB := HB.trans (hb.mono HB.size)
            clear hb
            refine Fw.hNext HS ?_
            refine Fw.hAll1 3 (by kernel_rfl) ?_
            refine Fw.hOp 3 rfl ?_
            refine Fw.call cf15 rfl rfl (replay_any _ nm ver Tq qs cq (hq.low HB) hql ha hg A5_ l c5_ (Rd.of_own HO5) hwq (by omega)) ?_
            rintro e_ w44 ⟨g2, qs2, rfl, hnf2, HI2, hb⟩
            refine ⟨_, rfl, ?_⟩
            replace HZN := HZN.trans (hb.mono HZN.size)
            replace Hz := Hz.low hb
            replace HI := HI.low hb
            replace Ht := Ht.low hb
            replace HS := HS.trans (hb.mono HS.size)
            replace HO5 := own_below HO5 hb (Nat.le_refl _)
            replace HB := HB.trans (hb.mono HB.size)
            clear hb
            have hv2 : Tk.VP nm ver qs2 := by rw [← Tk.VP_nf, hnf2, Tk.VP_nf]; exact hg.1
            have hw3 : Tk.Wy qs2 l := by rw [← Tk.Wy_nf, hnf2, Tk.Wy_nf]; exact hwq
            have hcu2 : Tk.cur qs2 l = Tk.cur qs' l := by rw [← Tk.cur_nf, hnf2, ← hnf, Tk.cur_nf]
            refine Fw.hNext HS ?_
            refine Fw.hTk 4 rfl rfl (Fw.yV (Fw.val_move rfl)) rfl ?_
            refine Fw.hTk 5 rfl rfl (Fw.yV (Fw.val_extract rfl rfl)) rfl ?_
            refine Fw.hTk 6 rfl rfl (Fw.yV (Fw.val_extract rfl rfl)) rfl ?_
            refine Fw.hTk 7 rfl rfl (Fw.yV (Fw.val_assign rfl)) rfl ?_
            refine Fw.hTk 8 rfl rfl (Fw.yV (Fw.val_assign rfl)) rfl ?_
            refine Fw.hDone (by kernel_rfl) ?_
            refine hK93 _ _ (Fw.FC.sub (f' := [(32, _), (31, _), (28, _), (27, _), (26, _)]) (.cons rfl (.cons rfl (.cons rfl (.cons rfl (.cons rfl .nil))))) ?_)
            refine Fw.seq fun _ hK94 => ?_
            refine Fw.seq fun _ hK95 => ?_
            refine Fw.region ?_
            refine Fw.s (Fw.val_move rfl) rfl ?_
            refine Fw.s (Fw.Val.F (Fw.val_bin rfl rfl Fw.b_neq) (by omega)) rfl ?_
            refine Fw.s (Fw.val_move rfl) rfl ?_
            refine Fw.gT (d := 242) rfl rfl ?_
            refine Fw.s (Fw.val_move rfl) rfl ?_
            refine Fw.gT (d := 242) rfl rfl ?_
            refine Fw.s (Fw.val_bin rfl rfl (Fw.b_nilP Try.underlying34)) rfl ?_
            refine Fw.s (Fw.val_pickF rfl rfl) rfl ?_
            refine Fw.nil ?_
            refine hK95 _ _ ?_
            refine Fw.condF rfl ?_
            refine Fw.skip ?_
            refine hK94 _ _ (Fw.FC.sub (f' := [(31, _), (28, _), (27, _), (26, _)]) (.cons rfl (.cons rfl (.cons rfl (.cons rfl .nil)))) ?_)
            refine Fw.seq fun _ hK96 => ?_
            refine Fw.region ?_
            refine Fw.s (Fw.val_move rfl) rfl ?_
            refine Fw.call cf14 rfl rfl (result_any _ _ g2 nm ver qs2 l HI2 hv2 hw3 (by omega)) ?_
            rintro e_ w45 ⟨u2, cd2, be2, rfl, hbe2, hrs2, hb⟩
            refine ⟨_, rfl, ?_⟩
            replace HZN := HZN.trans (hb.mono HZN.size)
            replace Hz := Hz.low hb
            replace HI := HI.low hb
            replace Ht := Ht.low hb
            replace HO5 := own_below HO5 hb (Nat.le_refl _)
            replace HI2 := HI2.low hb
            replace HB := HB.trans (hb.mono HB.size)
            clear hb
            have hrs3 : Tk.Rs qs' l u2 cd2 := by rw [← Tk.Rs_nf, hnf, ← hnf2, Tk.Rs_nf]; exact hrs2
            obtain ⟨er1, er2⟩ := hrs3.uniq hrs
            refine Fw.s (Fw.val_move rfl) rfl ?_
            refine Fw.s (Fw.val_extract rfl rfl) rfl ?_
            refine Fw.s (Fw.val_extract rfl rfl) rfl ?_
            refine Fw.s (Fw.val_extract rfl rfl) rfl ?_
            refine Fw.bT (by exact hbe2.2 (hcu2.trans (hbe.1 rfl))) ?_
            refine Fw.s (Fw.val_assign rfl) rfl ?_
            refine Fw.s (Fw.val_assign rfl) rfl ?_
            refine Fw.s (Fw.val_assign rfl) rfl ?_
            refine Fw.nil ?_
            refine hK96 _ _ (Fw.FC.sub (f' := [(35, _), (34, _), (33, _), (28, _), (27, _), (26, _)]) (.cons rfl (.cons rfl (.cons rfl (.cons rfl (.cons rfl (.cons rfl .nil)))))) ?_)
            refine Fw.seq fun _ hK97 => ?_
            refine Fw.region ?_
            refine Fw.s (Fw.val_move rfl) rfl ?_
            refine Fw.s (Fw.val_move rfl) rfl ?_
            refine Fw.s (Fw.Val.T (Fw.val_bin rfl rfl Fw.b_eql) (by exact er1)) rfl ?_
            refine Fw.s (Fw.val_move rfl) rfl ?_
            refine Fw.gT (d := 255) rfl rfl ?_
            refine Fw.s (Fw.val_move rfl) rfl ?_
            refine Fw.gT (d := 255) rfl rfl ?_
            refine Fw.s (Fw.val_move rfl) rfl ?_
            refine Fw.gT (d := 255) rfl rfl ?_
            refine Fw.s (Fw.Val.T (Fw.val_bin rfl rfl Fw.b_eqlS) (by exact er2)) rfl ?_
            refine Fw.s (Fw.val_pickT rfl rfl) rfl ?_
            refine Fw.s (Fw.val_move rfl) rfl ?_
            refine Fw.gT (d := 260) rfl rfl ?_
            refine Fw.s (Fw.val_move rfl) rfl ?_
            refine Fw.gT (d := 260) rfl rfl ?_
            refine Fw.s (Fw.val_move rfl) rfl ?_
            refine Fw.gT (d := 260) rfl rfl ?_
            refine Fw.s (Fw.Val.T (Fw.val_bin rfl rfl (Fw.b_eqlB Try.underlying4)) (by decide)) rfl ?_
            refine Fw.s (Fw.val_pickT rfl rfl) rfl ?_
            refine Fw.s (Fw.val_assign rfl) rfl ?_
            refine Fw.nil ?_
            refine hK97 _ _ (Fw.FC.sub (f' := [(6, _)]) (.cons rfl .nil) ?_)
            refine Fw.ret ?_
            refine Fw.ret_ [.tmp 6] [_] Try.results3 (.tmp rfl .nil) ?_
            exact ⟨rfl, HB⟩
          · rintro rfl
            refine Fw.s (Fw.val_assign rfl) rfl ?_
            refine Fw.s (Fw.val_assign rfl) rfl ?_
            refine Fw.s (Fw.val_assign rfl) rfl ?_
            refine Fw.nil ?_
            refine hK87 _ _ (Fw.FC.sub (f' := [(28, _), (27, _), (26, _), (18, _), (17, _), (13, _), (3, _)]) (.cons rfl (.cons rfl (.cons rfl (.cons rfl (.cons rfl (.cons rfl (.cons rfl .nil))))))) ?_)
            refine Fw.seq fun _ hK98 => ?_
            refine Fw.seq fun _ hK99 => ?_
            refine Fw.region ?_
            refine Fw.s (Fw.val_move rfl) rfl ?_
            refine Fw.call cf10 rfl rfl (question_any _ _ g nm ver qs' l HI hv' hw) ?_
            rintro e_ w46 ⟨tx2, An2, n2, cn2, bq2, rfl, hbq2, hbn2, hb⟩
            refine ⟨_, rfl, ?_⟩
            replace HZN := HZN.trans (hb.mono HZN.size)
            replace HI := HI.low hb
            replace HB := HB.trans (hb.mono HB.size)
            clear hb
            refine Fw.s (Fw.val_move rfl) rfl ?_
            refine Fw.s (Fw.val_extract rfl rfl) rfl ?_
            refine Fw.s (Fw.val_extract rfl rfl) rfl ?_
            refine Fw.bT (by cases bq2 with | true => rfl | false => exact Classical.byContradiction fun _ => absurd (hbe.2 (Classical.byContradiction fun h_ => absurd (hbq2.2 h_) (by decide))) (by decide)) ?_
            have HIz := HI
            clear HI
            have HZI := Below.refl w46.heap.size w46
            refine Fw.alloc ze30 rfl ?_
            intro w47 gz egz Hz hb
            have bgz : w46.heap.size ≤ gz := by omega
            have bNgz : w6.heap.size ≤ gz := by have := HZN.size; omega
            have lgz : w.heap.size ≤ gz := by have := HB.size; omega
            replace HZN := HZN.trans (hb.mono HZN.size)
            replace HZI := HZI.trans (hb.mono HZI.size)
            replace HB := HB.trans (hb.mono HB.size)
            clear hb
            clear egz
            refine Fw.storeW sz30 rfl rfl Hz rfl rfl (by exact Fw.oneCells rfl) ?_
            intro w48 N_ hc
            replace HZN := HZN.trans (hc.below (B := w6.heap.size) (fun k e => by omega) HZN.size)
            replace HZI := HZI.trans (hc.below (B := w46.heap.size) (fun k e => by omega) HZI.size)
            replace HB := HB.trans (hc.below (B := w.heap.size) (fun k e => by omega) HB.size)
            clear hc
            clear Hz
            have Hz := N_
            clear N_
            replace Hz : Blk w48 gz 30 #[.string tx2, .slice An2 n2 cn2] := Hz
            refine Fw.s (Fw.val_assign rfl) rfl ?_
            refine Fw.nil ?_
            refine hK99 _ _ ?_
            refine Fw.seq fun _ hK100 => ?_
            have HI := HIz.low HZI
            clear HIz HZI
            refine Fw.region ?_
            refine Fw.s (Fw.val_move rfl) rfl ?_
            refine Fw.s (Fw.val_move rfl) rfl ?_
            refine Fw.s (Fw.Val.F (Fw.val_bin rfl rfl (Fw.b_eqlB Try.underlying4)) (by decide)) rfl ?_
            refine Fw.nil ?_
            refine hK100 _ _ (Fw.FC.sub (f' := [(217, _), (28, _), (27, _), (26, _), (18, _), (17, _), (13, _), (3, _)]) (.cons rfl (.cons rfl (.cons rfl (.cons rfl (.cons rfl (.cons rfl (.cons rfl (.cons rfl .nil)))))))) ?_)
            refine Fw.condF rfl ?_
            refine Fw.skip ?_
            refine hK98 _ _ ?_
            refine Fw.seq fun _ hK101 => ?_
            refine Fw.seq fun _ hK102 => ?_
            refine Fw.region ?_
            refine Fw.s (Fw.val_move rfl) rfl ?_
            refine Fw.s (Fw.val_move rfl) rfl ?_
            refine Fw.gF (d := 219) rfl rfl rfl rfl ?_
            refine Fw.gF (d := 219) rfl rfl rfl rfl ?_
            refine Fw.gF (d := 219) rfl rfl rfl rfl ?_
            refine Fw.gF (d := 219) rfl rfl rfl rfl ?_
            refine Fw.gU (d := 223) rfl rfl rfl ?_
            refine Fw.gU (d := 223) rfl rfl rfl ?_
            refine Fw.gU (d := 223) rfl rfl rfl ?_
            refine Fw.gF (d := 219) rfl rfl rfl rfl ?_
            refine Fw.gF (d := 219) rfl rfl rfl rfl ?_
            refine Fw.gU (d := 228) rfl rfl rfl ?_
            refine Fw.gU (d := 228) rfl rfl rfl ?_
            refine Fw.gF (d := 219) rfl rfl rfl rfl ?_
            refine Fw.s (Fw.val_pickF rfl rfl) rfl ?_
            refine Fw.nil ?_
            refine hK102 _ _ (Fw.FC.sub (f' := [(232, _), (28, _), (27, _), (26, _), (13, _), (3, _)]) (.cons rfl (.cons rfl (.cons rfl (.cons rfl (.cons rfl (.cons rfl .nil)))))) ?_)
            refine Fw.condF rfl ?_
            refine Fw.skip ?_
            refine hK101 _ _ ?_
            refine Fw.seq fun _ hK103 => ?_
            have Ht := HtN.low HZN
            have hwq : Tk.Wy qs l := by rw [← Tk.Wy_nf, ← hnf, Tk.Wy_nf]; exact hw
            refine Fw.regionH (by kernel_rfl) ?_
            have R_Hz := Hz
            have R_Ht := Ht
            have R_HB := HB
            intro w49 hb
            have HS := hb
            replace HZN := HZN.trans (hb.mono HZN.size)
            replace Hz := Hz.low hb
            replace HI := HI.low hb
            replace Ht := Ht.low hb
            replace HB := HB.trans (hb.mono HB.size)
            clear hb
            refine Fw.hTk 0 rfl rfl (Fw.yV (Fw.hLdA ag24 rfl (Fw.rdBlk R_Ht) rfl)) rfl ?_
            refine Fw.hTk 1 rfl rfl (Fw.yV (Fw.val_move rfl)) rfl ?_
            refine Fw.hAll1 2 (by kernel_rfl) ?_
            refine Fw.hOp 2 rfl ?_
            refine Fw.call cf11 rfl rfl (answers_any _ _ g nm ver qs' l HI (by omega)) ?_
            rintro e_ w50 ⟨A5_, c5_, rfl, HO5, hb⟩
            refine ⟨_, rfl, ?_⟩
            replace HZN := HZN.trans (hb.mono HZN.size)
            replace Hz := Hz.low hb
            replace HI := HI.low hb
            replace Ht := Ht.low hb
            replace HS := HS.trans (hb.mono HS.size)
            replace HB := HB.trans (hb.mono HB.size)
            clear hb
            refine Fw.hNext HS ?_
            refine Fw.hAll1 3 (by kernel_rfl) ?_
            refine Fw.hOp 3 rfl ?_
            refine Fw.call cf15 rfl rfl (replay_any _ nm ver Tq qs cq (hq.low HB) hql ha hg A5_ l c5_ (Rd.of_own HO5) hwq (by omega)) ?_
            rintro e_ w51 ⟨g2, qs2, rfl, hnf2, HI2, hb⟩
            refine ⟨_, rfl, ?_⟩
            replace HZN := HZN.trans (hb.mono HZN.size)
            replace Hz := Hz.low hb
            replace HI := HI.low hb
            replace Ht := Ht.low hb
            replace HS := HS.trans (hb.mono HS.size)
            replace HO5 := own_below HO5 hb (Nat.le_refl _)
            replace HB := HB.trans (hb.mono HB.size)
            clear hb
            have hv2 : Tk.VP nm ver qs2 := by rw [← Tk.VP_nf, hnf2, Tk.VP_nf]; exact hg.1
            have hw3 : Tk.Wy qs2 l := by rw [← Tk.Wy_nf, hnf2, Tk.Wy_nf]; exact hwq
            have hcu2 : Tk.cur qs2 l = Tk.cur qs' l := by rw [← Tk.cur_nf, hnf2, ← hnf, Tk.cur_nf]
            refine Fw.hNext HS ?_
            refine Fw.hTk 4 rfl rfl (Fw.yV (Fw.val_move rfl)) rfl ?_
            refine Fw.hTk 5 rfl rfl (Fw.yV (Fw.val_extract rfl rfl)) rfl ?_
            refine Fw.hTk 6 rfl rfl (Fw.yV (Fw.val_extract rfl rfl)) rfl ?_
            refine Fw.hTk 7 rfl rfl (Fw.yV (Fw.val_assign rfl)) rfl ?_
            refine Fw.hTk 8 rfl rfl (Fw.yV (Fw.val_assign rfl)) rfl ?_
            refine Fw.hDone (by kernel_rfl) ?_
            refine hK103 _ _ (Fw.FC.sub (f' := [(32, _), (31, _), (28, _), (27, _), (26, _)]) (.cons rfl (.cons rfl (.cons rfl (.cons rfl (.cons rfl .nil))))) ?_)
            refine Fw.seq fun _ hK104 => ?_
            refine Fw.seq fun _ hK105 => ?_
            refine Fw.region ?_
            refine Fw.s (Fw.val_move rfl) rfl ?_
            refine Fw.s (Fw.Val.F (Fw.val_bin rfl rfl Fw.b_neq) (by omega)) rfl ?_
            refine Fw.s (Fw.val_move rfl) rfl ?_
            refine Fw.gT (d := 242) rfl rfl ?_
            refine Fw.s (Fw.val_move rfl) rfl ?_
            refine Fw.gT (d := 242) rfl rfl ?_
            refine Fw.s (Fw.val_bin rfl rfl (Fw.b_nilP Try.underlying34)) rfl ?_
            refine Fw.s (Fw.val_pickF rfl rfl) rfl ?_
            refine Fw.nil ?_
            refine hK105 _ _ ?_
            refine Fw.condF rfl ?_
            refine Fw.skip ?_
            refine hK104 _ _ (Fw.FC.sub (f' := [(31, _), (28, _), (27, _), (26, _)]) (.cons rfl (.cons rfl (.cons rfl (.cons rfl .nil)))) ?_)
            refine Fw.seq fun _ hK106 => ?_
            refine Fw.region ?_
            refine Fw.s (Fw.val_move rfl) rfl ?_
            refine Fw.call cf14 rfl rfl (result_any _ _ g2 nm ver qs2 l HI2 hv2 hw3 (by omega)) ?_
            rintro e_ w52 ⟨u2, cd2, be2, rfl, hbe2, hrs2, hb⟩
            refine ⟨_, rfl, ?_⟩
            replace HZN := HZN.trans (hb.mono HZN.size)
            replace Hz := Hz.low hb
            replace HI := HI.low hb
            replace Ht := Ht.low hb
            replace HO5 := own_below HO5 hb (Nat.le_refl _)
            replace HI2 := HI2.low hb
            replace HB := HB.trans (hb.mono HB.size)
            clear hb
            have hrs3 : Tk.Rs qs' l u2 cd2 := by rw [← Tk.Rs_nf, hnf, ← hnf2, Tk.Rs_nf]; exact hrs2
            obtain ⟨er1, er2⟩ := hrs3.uniq hrs
            refine Fw.s (Fw.val_move rfl) rfl ?_
            refine Fw.s (Fw.val_extract rfl rfl) rfl ?_
            refine Fw.s (Fw.val_extract rfl rfl) rfl ?_
            refine Fw.s (Fw.val_extract rfl rfl) rfl ?_
            refine Fw.bF (by cases be2 with | false => rfl | true => exact absurd (hbe.2 (hcu2.symm.trans (hbe2.1 rfl))) (by decide)) ?_
            refine Fw.s (Fw.val_assign rfl) rfl ?_
            refine Fw.s (Fw.val_assign rfl) rfl ?_
            refine Fw.s (Fw.val_assign rfl) rfl ?_
            refine Fw.nil ?_
            refine hK106 _ _ (Fw.FC.sub (f' := [(35, _), (34, _), (33, _), (28, _), (27, _), (26, _)]) (.cons rfl (.cons rfl (.cons rfl (.cons rfl (.cons rfl (.cons rfl .nil)))))) ?_)
            refine Fw.seq fun _ hK107 => ?_
            refine Fw.region ?_
            refine Fw.s (Fw.val_move rfl) rfl ?_
            refine Fw.s (Fw.val_move rfl) rfl ?_
            refine Fw.s (Fw.Val.T (Fw.val_bin rfl rfl Fw.b_eql) (by exact er1)) rfl ?_
            refine Fw.s (Fw.val_move rfl) rfl ?_
            refine Fw.gT (d := 255) rfl rfl ?_
            refine Fw.s (Fw.val_move rfl) rfl ?_
            refine Fw.gT (d := 255) rfl rfl ?_
            refine Fw.s (Fw.val_move rfl) rfl ?_
            refine Fw.gT (d := 255) rfl rfl ?_
            refine Fw.s (Fw.Val.T (Fw.val_bin rfl rfl Fw.b_eqlS) (by exact er2)) rfl ?_
            refine Fw.s (Fw.val_pickT rfl rfl) rfl ?_
            refine Fw.s (Fw.val_move rfl) rfl ?_
            refine Fw.gT (d := 260) rfl rfl ?_
            refine Fw.s (Fw.val_move rfl) rfl ?_
            refine Fw.gT (d := 260) rfl rfl ?_
            refine Fw.s (Fw.val_move rfl) rfl ?_
            refine Fw.gT (d := 260) rfl rfl ?_
            refine Fw.s (Fw.Val.T (Fw.val_bin rfl rfl (Fw.b_eqlB Try.underlying4)) (by decide)) rfl ?_
            refine Fw.s (Fw.val_pickT rfl rfl) rfl ?_
            refine Fw.s (Fw.val_assign rfl) rfl ?_
            refine Fw.nil ?_
            refine hK107 _ _ (Fw.FC.sub (f' := [(6, _)]) (.cons rfl .nil) ?_)
            refine Fw.ret ?_
            refine Fw.ret_ [.tmp 6] [_] Try.results3 (.tmp rfl .nil) ?_
            exact ⟨rfl, HB⟩

end Go.Proofs.Ytpoacekefhblhaa
