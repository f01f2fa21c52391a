/- Layer 19: StoragePoweredOff walked. -/
import Derived.Test.YtmabbdkckdpeoaaStLaw6
import Derived.Test.YtmabbdkckdpeoaaT19
import Derived.Test.YtmabbdkckdpeoaaFi
namespace Go.Proofs.Ytmabbdkckdpeoaa
set_option linter.unusedSimpArgs false
set_option linter.unusedVariables false
open Go.RowKit

set_option maxRecDepth 100000 in
set_option maxHeartbeats 1000000 in
theorem off_walk (w : World) (A : Option Addr) (l : List St.Act) (c : Nat) (A2 : Option Addr) (c2 : Nat) (a : St.Act) (h : Acts w A l) (hl : l.length ≤ maxLen) (hbig : ∀ a ∈ l, a.b.length ≤ 140737488355328) (h48 : (l.length + 1) * 48 ≤ 140737488355328)
    (ha : ActV w (.agg #[.int .u8 a.kind, .slice A2 a.b.length c2, .int .i64 a.n, .int .u8 a.m]) a) (hab : a.b.length ≤ 140737488355328) (har : Rd w A2 (a.b.map (.int .u8))) :
    Calls Try.prog 8 #[.slice A l.length c, .agg #[.int .u8 a.kind, .slice A2 a.b.length c2, .int .i64 a.n, .int .u8 a.m]] w fun e w' => e = .returned (.bool true) ∧ Below w.heap.size w w' := by
  obtain ⟨vs, hvr, hvs⟩ := h.cells
  have hbig2 : ∀ x ∈ l ++ [a], x.b.length ≤ 140737488355328 := fun x hx => by
    rcases List.mem_append.1 hx with h | h
    · exact hbig x h
    · simp at h; subst h; exact hab
  have hll : l.length ≤ 2932031007402 := by omega
  by_cases hs : tot (l ++ [a]) ≤ 3000
  · skip
    refine Fw.calls Try.func8 rfl Try.ntmps8 rfl ?_
    have HB := Below.refl (w.heap.size) w
    refine Fw.seq fun _ hK1 => ?_
    refine Fw.region ?_
    refine Fw.box rfl rfl ?_
    intro w1 gXa egXa HXa hb
    have lgXa : w.heap.size ≤ gXa := by have := HB.size; omega
    replace HB := HB.trans (hb.mono HB.size)
    clear hb
    clear egXa
    refine Fw.s (Fw.val_assign rfl) rfl ?_
    refine Fw.nil ?_
    refine hK1 _ _ ?_
    refine Fw.seq fun _ hK2 => ?_
    refine Fw.seq fun _ hK3 => ?_
    refine Fw.region ?_
    refine Fw.call cf9 rfl rfl (wakes_any _) ?_
    rintro e_ w2 ⟨rfl, hb⟩
    refine ⟨_, rfl, ?_⟩
    replace HXa := HXa.low hb
    replace HB := HB.trans (hb.mono HB.size)
    clear hb
    refine Fw.bT (by rfl) ?_
    refine Fw.s (Fw.val_not rfl) rfl ?_
    refine Fw.nil ?_
    refine hK3 _ _ ?_
    refine Fw.condF rfl ?_
    refine Fw.skip ?_
    refine hK2 _ _ ?_
    refine Fw.seq_cut [(0, .slice A l.length c), (3, .pointer (some ⟨gXa, 0, none⟩))] (fun W_ => Blk W_ gXa 39 #[.int .u8 a.kind, .slice A2 a.b.length c2, .int .i64 a.n, .int .u8 a.m] ∧ Below (w.heap.size) w W_) ?_ (fun _ hK4 => ?_)
    · rintro w3 ⟨HXa, HB⟩
      refine Fw.seq fun _ hK5 => ?_
      refine Fw.region ?_
      refine Fw.s (Fw.val_move rfl) rfl ?_
      refine Fw.call cf17 rfl rfl (play_any _ A l c (h.low HB) hl) ?_
      rintro e_ w4 ⟨p, g, A1, c1, rfl, hf, -, hb⟩
      refine ⟨_, rfl, ?_⟩
      have HX5 := HXa
      have HB5 := HB
      have hok := St.run_ok l
      obtain ⟨D, n0, f0⟩ : ∃ D n0, St.on (St.run l) = ⟨D, n0, false⟩ := ⟨_, _, rfl⟩
      have hD : D.length ≤ 16777216 := by have : D = (St.run l).data := (congrArg St.T.data f0).symm; rw [this]; exact hok.2
      rw [f0] at hf
      have HL : Live w3 w4 w3.heap.size p g ⟨D, n0, false⟩ none [] := ⟨hf, Rd.nil _ _, fun k hk _ => (by cases hk), hb, Nat.le_refl _⟩
      replace HB := HB.trans (hb.mono HB.size)
      clear hb hf HXa
      refine Fw.s (Fw.val_move rfl) rfl ?_
      refine Fw.s (Fw.val_extract rfl rfl) rfl ?_
      refine Fw.s (Fw.val_extract rfl rfl) rfl ?_
      refine Fw.s (Fw.val_extract rfl rfl) rfl ?_
      refine Fw.s (Fw.val_assign rfl) rfl ?_
      refine Fw.s (Fw.val_assign rfl) rfl ?_
      refine Fw.s (Fw.val_assign rfl) rfl ?_
      refine Fw.nil ?_
      refine hK5 _ _ (Fw.FC.sub (f' := [(5, _), (3, _)]) (.cons rfl (.cons rfl .nil)) ?_)
      refine Fw.seq fun _ hK6 => ?_
      refine Fw.region ?_
      refine Fw.s (Fw.val_move rfl) rfl ?_
      refine Fw.call cf20 rfl rfl (sync_any _ _ p _ ⟨D, n0, false⟩  HL.file hD) ?_
      rintro e_ w5 ⟨rfl, hto⟩
      refine ⟨_, rfl, ?_⟩
      rw [show St.sync ⟨D, n0, false⟩ = ⟨D, D.length, false⟩ from rfl] at hto
      obtain ⟨g_, HL_⟩ := HL.step hto
      clear hto HL
      have HL := HL_
      clear HL_
      replace HB := HB5.trans (HL.bel.mono HB5.size)
      refine Fw.nil ?_
      refine hK6 _ _ ?_
      refine Fw.seq fun _ hK7 => ?_
      refine Fw.region ?_
      refine Fw.s (Fw.val_move rfl) rfl ?_
      refine Fw.call cf12 rfl rfl (bytes_any _ _ p _ ⟨D, D.length, false⟩ HL.file hD rfl) ?_
      rintro e_ w6 ⟨AD, cD, rfl, HD, hb⟩
      refine ⟨_, rfl, ?_⟩
      have hfo := fun k => HL.file.out (k := k)
      replace HL := HL.low hb
      replace HL : Live _ w6 _ p _ ⟨D, D.length, false⟩ AD D := ⟨HL.file, Rd.of_own HD, fun k hk h0 => ⟨hfo k (HD.lt k (by rw [ownBlock_slice]; exact hk)).1, (HD.lt k (by rw [ownBlock_slice]; exact hk)).2⟩, HL.bel, HL.base⟩
      replace HB := HB.trans (hb.mono HB.size)
      clear hb HD hfo
      refine Fw.s (Fw.val_move rfl) rfl ?_
      refine Fw.s (Fw.val_extract rfl rfl) rfl ?_
      refine Fw.s (Fw.val_extract rfl rfl) rfl ?_
      refine Fw.s (Fw.val_assign rfl) rfl ?_
      refine Fw.s (Fw.val_assign rfl) rfl ?_
      refine Fw.nil ?_
      refine hK7 _ _ (Fw.FC.sub (f' := [(8, _), (5, _), (3, _)]) (.cons rfl (.cons rfl (.cons rfl .nil))) ?_)
      refine Fw.seq fun _ hK8 => ?_
      refine Fw.region ?_
      refine Fw.s (Fw.val_move rfl) rfl ?_
      refine Fw.call cf18 rfl rfl (powerFail_any _ _ p _ ⟨D, D.length, false⟩ 0 0 HL.file ⟨Nat.le_refl _, hD⟩ (by decide)) ?_
      rintro e_ w7 ⟨rfl, hto⟩
      refine ⟨_, rfl, ?_⟩
      rw [show St.cut ⟨D, D.length, false⟩ 0 0 = ⟨D, D.length, true⟩ from St.cut_synced ⟨D, D.length, false⟩ 0 0 rfl rfl] at hto
      obtain ⟨g_, HL_⟩ := HL.step hto
      clear hto HL
      have HL := HL_
      clear HL_
      replace HB := HB5.trans (HL.bel.mono HB5.size)
      refine Fw.nil ?_
      refine hK8 _ _ ?_
      refine Fw.seq fun _ hK9 => ?_
      refine Fw.region ?_
      refine Fw.s (Fw.val_move rfl) rfl ?_
      refine Fw.s (Fw.val_fieldAddr fl39_1 rfl rfl) rfl ?_
      refine Fw.ld sc22 rfl ((HX5.low HL.bel).cell 1) rfl ?_
      refine Fw.call cf11 rfl rfl (write_any _ _ p _ ⟨D, D.length, true⟩ a.b A2 c2 HL.file hD (har.low HB) (by unfold maxLen; omega)) ?_
      rintro e_ w8 ⟨rfl, hto⟩
      refine ⟨_, rfl, ?_⟩
      rw [show St.write ⟨D, D.length, true⟩ a.b = ⟨D, D.length, true⟩ from (St.off_write ⟨D, D.length, true⟩ a.b rfl).1] at hto
      obtain ⟨g_, HL_⟩ := HL.step hto
      clear hto HL
      have HL := HL_
      clear HL_
      replace HB := HB5.trans (HL.bel.mono HB5.size)
      refine Fw.s (Fw.val_move rfl) rfl ?_
      refine Fw.call cf20 rfl rfl (sync_any _ _ p _ ⟨D, D.length, true⟩  HL.file hD) ?_
      rintro e_ w9 ⟨rfl, hto⟩
      refine ⟨_, rfl, ?_⟩
      rw [show St.sync ⟨D, D.length, true⟩ = ⟨D, D.length, true⟩ from rfl] at hto
      obtain ⟨g_, HL_⟩ := HL.step hto
      clear hto HL
      have HL := HL_
      clear HL_
      replace HB := HB5.trans (HL.bel.mono HB5.size)
      refine Fw.s (Fw.val_move rfl) rfl ?_
      refine Fw.call cf21 rfl rfl (truncate_any _ _ p _ ⟨D, D.length, true⟩ 0 HL.file ⟨Nat.le_refl _, hD⟩) ?_
      rintro e_ w10 ⟨rfl, hto⟩
      refine ⟨_, rfl, ?_⟩
      rw [show St.short ⟨D, D.length, true⟩ 0 = ⟨D, D.length, true⟩ from (St.off_short ⟨D, D.length, true⟩ rfl).1] at hto
      obtain ⟨g_, HL_⟩ := HL.step hto
      clear hto HL
      have HL := HL_
      clear HL_
      replace HB := HB5.trans (HL.bel.mono HB5.size)
      refine Fw.s (Fw.val_assign rfl) rfl ?_
      refine Fw.s (Fw.val_assign rfl) rfl ?_
      refine Fw.s (Fw.val_assign rfl) rfl ?_
      refine Fw.nil ?_
      refine hK9 _ _ (Fw.FC.sub (f' := [(12, _), (11, _), (10, _), (8, _), (5, _)]) (.cons rfl (.cons rfl (.cons rfl (.cons rfl (.cons rfl .nil))))) ?_)
      refine Fw.seq fun _ hK10 => ?_
      refine Fw.region ?_
      refine Fw.s (Fw.val_move rfl) rfl ?_
      refine Fw.call cf13 rfl rfl (durable_any _ _ p _ ⟨D, D.length, true⟩ HL.file) ?_
      rintro e_ _ ⟨rfl, rfl⟩
      refine ⟨_, rfl, ?_⟩
      refine Fw.s (Fw.val_assign rfl) rfl ?_
      refine Fw.nil ?_
      refine hK10 _ _ ?_
      refine Fw.seq fun _ hK11 => ?_
      refine Fw.region ?_
      refine Fw.s (Fw.val_move rfl) rfl ?_
      refine Fw.call cf19 rfl rfl (powerOn_any _ _ p _ ⟨D, D.length, true⟩  HL.file ) ?_
      rintro e_ w11 ⟨rfl, hto⟩
      refine ⟨_, rfl, ?_⟩
      rw [show St.on ⟨D, D.length, true⟩ = ⟨D, D.length, false⟩ from rfl] at hto
      obtain ⟨g_, HL_⟩ := HL.step hto
      clear hto HL
      have HL := HL_
      clear HL_
      replace HB := HB5.trans (HL.bel.mono HB5.size)
      refine Fw.nil ?_
      refine hK11 _ _ ?_
      refine Fw.seq fun _ hK12 => ?_
      refine Fw.region ?_
      refine Fw.s (Fw.val_move rfl) rfl ?_
      refine Fw.call cf12 rfl rfl (bytes_any _ _ p _ ⟨D, D.length, false⟩ HL.file hD rfl) ?_
      rintro e_ w12 ⟨AE, cE, rfl, HE, hb⟩
      refine ⟨_, rfl, ?_⟩
      replace HL := HL.low hb
      replace HB := HB.trans (hb.mono HB.size)
      clear hb
      refine Fw.s (Fw.val_move rfl) rfl ?_
      refine Fw.s (Fw.val_extract rfl rfl) rfl ?_
      refine Fw.s (Fw.val_extract rfl rfl) rfl ?_
      refine Fw.s (Fw.val_assign rfl) rfl ?_
      refine Fw.s (Fw.val_assign rfl) rfl ?_
      refine Fw.nil ?_
      refine hK12 _ _ (Fw.FC.sub (f' := [(15, _), (14, _), (13, _), (12, _), (11, _), (10, _), (8, _)]) (.cons rfl (.cons rfl (.cons rfl (.cons rfl (.cons rfl (.cons rfl (.cons rfl .nil))))))) ?_)
      refine Fw.seq fun _ hK13 => ?_
      refine Fw.region ?_
      refine Fw.s (Fw.val_move rfl) rfl ?_
      refine Fw.s (Fw.Val.T (Fw.val_bin rfl rfl Fw.b_eql) (by exact (St.off_write ⟨D, D.length, true⟩ a.b rfl).2)) rfl ?_
      refine Fw.s (Fw.val_move rfl) rfl ?_
      refine Fw.gT (d := 60) rfl rfl ?_
      refine Fw.s (Fw.val_move rfl) rfl ?_
      refine Fw.gT (d := 60) rfl rfl ?_
      refine Fw.s (Fw.Val.T (Fw.val_bin rfl rfl Fw.b_eql) (by rfl)) rfl ?_
      refine Fw.s (Fw.val_pickT rfl rfl) rfl ?_
      refine Fw.s (Fw.val_move rfl) rfl ?_
      refine Fw.gT (d := 64) rfl rfl ?_
      refine Fw.s (Fw.val_move rfl) rfl ?_
      refine Fw.gT (d := 64) rfl rfl ?_
      refine Fw.s (Fw.Val.T (Fw.val_bin rfl rfl Fw.b_eql) (by exact (St.off_short ⟨D, D.length, true⟩ rfl).2)) rfl ?_
      refine Fw.s (Fw.val_pickT rfl rfl) rfl ?_
      refine Fw.s (Fw.val_move rfl) rfl ?_
      refine Fw.gT (d := 68) rfl rfl ?_
      refine Fw.s (Fw.val_move rfl) rfl ?_
      refine Fw.gT (d := 68) rfl rfl ?_
      refine Fw.s (Fw.val_move rfl) rfl ?_
      refine Fw.gT (d := 68) rfl rfl ?_
      refine Fw.s (Fw.val_len Try.underlying22 rfl) rfl ?_
      refine Fw.gT (d := 68) rfl rfl ?_
      refine Fw.s (Fw.Val.T (Fw.val_bin rfl rfl Fw.b_eql) (by rfl)) rfl ?_
      refine Fw.s (Fw.val_pickT rfl rfl) rfl ?_
      refine Fw.s (Fw.val_move rfl) rfl ?_
      refine Fw.gT (d := 74) rfl rfl ?_
      refine Fw.s (Fw.val_move rfl) rfl ?_
      refine Fw.gT (d := 74) rfl rfl ?_
      refine Fw.s (Fw.val_str (l := D) Try.underlying22 Try.underlying5 Try.underlying9 rfl (fun _ h_ => h_ ▸ HL.rd) rfl) rfl ?_
      refine Fw.gT (d := 74) rfl rfl ?_
      refine Fw.s (Fw.val_move rfl) rfl ?_
      refine Fw.gT (d := 74) rfl rfl ?_
      refine Fw.s (Fw.val_str (l := D) Try.underlying22 Try.underlying5 Try.underlying9 rfl (fun _ h_ => h_ ▸ Rd.of_own HE) rfl) rfl ?_
      refine Fw.gT (d := 74) rfl rfl ?_
      refine Fw.s (Fw.Val.T (Fw.val_bin rfl rfl Fw.b_eqlS) (by rfl)) rfl ?_
      refine Fw.s (Fw.val_pickT rfl rfl) rfl ?_
      refine Fw.s (Fw.val_move rfl) rfl ?_
      refine Fw.gT (d := 81) rfl rfl ?_
      refine Fw.s (Fw.val_move rfl) rfl ?_
      refine Fw.gT (d := 81) rfl rfl ?_
      refine Fw.s (Fw.Val.T (Fw.val_bin rfl rfl Fw.b_eql) (by rfl)) rfl ?_
      refine Fw.s (Fw.val_pickT rfl rfl) rfl ?_
      refine Fw.s (Fw.val_assign rfl) rfl ?_
      refine Fw.nil ?_
      refine hK13 _ _ (Fw.FC.sub (f' := [(4, _)]) (.cons rfl .nil) ?_)
      refine Fw.ret ?_
      refine Fw.ret_ [.tmp 4] [_] Try.results8 (.tmp rfl .nil) ?_
      exact ⟨rfl, HB⟩
    · skip
      refine Fw.seq fun _ hK14 => ?_
      have hXa0 := HXa.lt
      have hB0 := HB.size
      refine Fw.regionH (by kernel_rfl) ?_
      have R_HXa := HXa
      have R_HB := HB
      intro w13 hb
      have HS := hb
      replace HXa := HXa.low hb
      replace HB := HB.trans (hb.mono HB.size)
      clear hb
      refine Fw.hTake 1 rfl rfl (by kernel_rfl) (by kernel_rfl) (by kernel_rfl) (Fw.yV (Fw.val_move rfl)) rfl ?_
      refine Fw.hTake 3 rfl rfl (by kernel_rfl) (by kernel_rfl) (by kernel_rfl) (Fw.yV (Fw.hLdA ag39 rfl (Fw.rdBlk R_HXa) rfl)) rfl ?_
      refine Fw.hAll2 0 4 (by kernel_rfl) ?_ ?_
      · skip
        refine Fw.hOp 0 rfl ?_
        refine Fw.buildSlice [] sl34 rfl rfl (by exact Fw.allSz rfl) (by decide) rfl ?_
        intro w14 gS18 egS18 HS18 hb
        have rgS18 : w2.heap.size ≤ gS18 := by have := HS.size; omega
        have n_gXa_gS18 : gXa < gS18 := by have := HXa.lt; omega
        have lgS18 : w.heap.size ≤ gS18 := by have := HB.size; omega
        replace HXa := HXa.low hb
        replace HS := HS.trans (hb.mono HS.size)
        replace HB := HB.trans (hb.mono HB.size)
        clear hb
        clear egS18
        refine Fw.hNext HS ?_
        refine Fw.hAll2 2 4 (by kernel_rfl) ?_ ?_
        · skip
          refine Fw.hOp 2 rfl ?_
          refine Fw.append (base := w2.heap.size) (l.length) (vs) slAct rfl rfl (Fw.own_blk (n := 0) HS18 rgS18 (by decide) rfl) (hvr.low HB) hvs.1 hvs.one (⟨by unfold maxLen; omega, by omega⟩) HS.size (by simp) rfl rfl ?_
          intro A20 c20 w15 N_ hbb hc _
          replace HXa := HXa.below hbb hXa0
          replace HS := HS.trans hbb
          replace HB := HB.trans (hbb.mono hB0)
          clear hbb hc
          have HO20 := N_
          clear N_
          refine Fw.hNext HS ?_
          refine Fw.hAll1 4 (by kernel_rfl) ?_
          refine Fw.hOp 4 rfl ?_
          refine Fw.buildSlice [_] sl34 rfl rfl (by exact Fw.allSz rfl) (by decide) rfl ?_
          intro w16 gS22 egS22 HS22 hb
          have rgS22 : w2.heap.size ≤ gS22 := by have := HS.size; omega
          have n_gXa_gS22 : gXa < gS22 := by have := HXa.lt; omega
          have lgS22 : w.heap.size ≤ gS22 := by have := HB.size; omega
          replace HXa := HXa.low hb
          replace HS := HS.trans (hb.mono HS.size)
          replace HO20 := own_below HO20 hb (Nat.le_refl _)
          replace HB := HB.trans (hb.mono HB.size)
          clear hb
          clear egS22
          refine Fw.hNext HS ?_
          refine Fw.hAll1 5 (by kernel_rfl) ?_
          refine Fw.hOp 5 rfl ?_
          refine Fw.append (base := w2.heap.size) ((l ++ [a]).length) (vs ++ #[.int .u8 a.kind, .slice A2 a.b.length c2, .int .i64 a.n, .int .u8 a.m].toList) slAct rfl rfl HO20 (Fw.rdBlk HS22) rfl (Fw.oneCellsL rfl) (⟨by unfold maxLen; omega, by omega⟩) HS.size (by simp) rfl rfl ?_
          intro A23 c23 w17 N_ hbb hc _
          replace HXa := HXa.below hbb hXa0
          replace HS := HS.trans hbb
          replace HB := HB.trans (hbb.mono hB0)
          clear hbb hc
          have HO23 := N_
          clear N_
          obtain ⟨g2, rfl, _⟩ := own_addr HO23 (by simp)
          refine Fw.hNext HS ?_
          refine Fw.hAll1 6 (by kernel_rfl) ?_
          refine Fw.hOp 6 rfl ?_
          refine Fw.call cf14 rfl rfl (small_any _ (some ⟨g2, 0, none⟩) (l ++ [a]) c23 (((hvs.snoc ha).low HB).acts (Rd.of_own HO23)) (by unfold maxLen; simp; omega) hbig2) ?_
          rintro e_ w18 ⟨rfl, hb⟩
          refine ⟨_, rfl, ?_⟩
          replace HXa := HXa.low hb
          replace HS := HS.trans (hb.mono HS.size)
          replace HO23 := own_below HO23 hb (Nat.le_refl _)
          replace HB := HB.trans (hb.mono HB.size)
          clear hb
          rw [decide_eq_true hs]
          refine Fw.bT (by rfl) ?_
          refine Fw.hNext HS ?_
          refine Fw.hTake 7 rfl rfl (by kernel_rfl) (by kernel_rfl) (by kernel_rfl) (Fw.yV (Fw.val_not rfl)) rfl ?_
          refine Fw.hDone (by kernel_rfl) ?_
          refine hK14 _ _ (Fw.FC.sub (f' := [(25, _), (3, _), (0, _)]) (.cons rfl (.cons rfl (.cons rfl .nil))) ?_)
          refine Fw.condF rfl ?_
          refine Fw.skip ?_
          exact hK4 _ _ ⟨HXa, HB⟩ (.cons rfl (.cons rfl .nil))
        · skip
          refine Fw.hOp 4 rfl ?_
          refine Fw.buildSlice [_] sl34 rfl rfl (by exact Fw.allSz rfl) (by decide) rfl ?_
          intro w19 gS22 egS22 HS22 hb
          have rgS22 : w2.heap.size ≤ gS22 := by have := HS.size; omega
          have n_gXa_gS22 : gXa < gS22 := by have := HXa.lt; omega
          have n_gS18_gS22 : gS18 < gS22 := by have := HS18.lt; omega
          have lgS22 : w.heap.size ≤ gS22 := by have := HB.size; omega
          replace HXa := HXa.low hb
          replace HS := HS.trans (hb.mono HS.size)
          replace HS18 := HS18.low hb
          replace HB := HB.trans (hb.mono HB.size)
          clear hb
          clear egS22
          refine Fw.hNext HS ?_
          refine Fw.hAll1 2 (by kernel_rfl) ?_
          refine Fw.hOp 2 rfl ?_
          refine Fw.append (base := w2.heap.size) (l.length) (vs) slAct rfl rfl (Fw.own_blk (n := 0) HS18 rgS18 (by decide) rfl) (hvr.low HB) hvs.1 hvs.one (⟨by unfold maxLen; omega, by omega⟩) HS.size (by simp) rfl rfl ?_
          intro A20 c20 w20 N_ hbb hc _
          replace HS22 := HS22.chg hc (by simp [Value.ownBlock]; omega)
          replace HXa := HXa.below hbb hXa0
          replace HS := HS.trans hbb
          replace HB := HB.trans (hbb.mono hB0)
          clear hbb hc
          have HO20 := N_
          clear N_
          refine Fw.hNext HS ?_
          refine Fw.hAll1 5 (by kernel_rfl) ?_
          refine Fw.hOp 5 rfl ?_
          refine Fw.append (base := w2.heap.size) ((l ++ [a]).length) (vs ++ #[.int .u8 a.kind, .slice A2 a.b.length c2, .int .i64 a.n, .int .u8 a.m].toList) slAct rfl rfl HO20 (Fw.rdBlk HS22) rfl (Fw.oneCellsL rfl) (⟨by unfold maxLen; omega, by omega⟩) HS.size (by simp) rfl rfl ?_
          intro A23 c23 w21 N_ hbb hc _
          replace HXa := HXa.below hbb hXa0
          replace HS := HS.trans hbb
          replace HB := HB.trans (hbb.mono hB0)
          clear hbb hc
          have HO23 := N_
          clear N_
          obtain ⟨g2, rfl, _⟩ := own_addr HO23 (by simp)
          refine Fw.hNext HS ?_
          refine Fw.hAll1 6 (by kernel_rfl) ?_
          refine Fw.hOp 6 rfl ?_
          refine Fw.call cf14 rfl rfl (small_any _ (some ⟨g2, 0, none⟩) (l ++ [a]) c23 (((hvs.snoc ha).low HB).acts (Rd.of_own HO23)) (by unfold maxLen; simp; omega) hbig2) ?_
          rintro e_ w22 ⟨rfl, hb⟩
          refine ⟨_, rfl, ?_⟩
          replace HXa := HXa.low hb
          replace HS := HS.trans (hb.mono HS.size)
          replace HO23 := own_below HO23 hb (Nat.le_refl _)
          replace HB := HB.trans (hb.mono HB.size)
          clear hb
          rw [decide_eq_true hs]
          refine Fw.bT (by rfl) ?_
          refine Fw.hNext HS ?_
          refine Fw.hTake 7 rfl rfl (by kernel_rfl) (by kernel_rfl) (by kernel_rfl) (Fw.yV (Fw.val_not rfl)) rfl ?_
          refine Fw.hDone (by kernel_rfl) ?_
          refine hK14 _ _ (Fw.FC.sub (f' := [(25, _), (3, _), (0, _)]) (.cons rfl (.cons rfl (.cons rfl .nil))) ?_)
          refine Fw.condF rfl ?_
          refine Fw.skip ?_
          exact hK4 _ _ ⟨HXa, HB⟩ (.cons rfl (.cons rfl .nil))
      · skip
        refine Fw.hOp 4 rfl ?_
        refine Fw.buildSlice [_] sl34 rfl rfl (by exact Fw.allSz rfl) (by decide) rfl ?_
        intro w23 gS22 egS22 HS22 hb
        have rgS22 : w2.heap.size ≤ gS22 := by have := HS.size; omega
        have n_gXa_gS22 : gXa < gS22 := by have := HXa.lt; omega
        have lgS22 : w.heap.size ≤ gS22 := by have := HB.size; omega
        replace HXa := HXa.low hb
        replace HS := HS.trans (hb.mono HS.size)
        replace HB := HB.trans (hb.mono HB.size)
        clear hb
        clear egS22
        refine Fw.hNext HS ?_
        refine Fw.hAll1 0 (by kernel_rfl) ?_
        refine Fw.hOp 0 rfl ?_
        refine Fw.buildSlice [] sl34 rfl rfl (by exact Fw.allSz rfl) (by decide) rfl ?_
        intro w24 gS18 egS18 HS18 hb
        have rgS18 : w2.heap.size ≤ gS18 := by have := HS.size; omega
        have n_gXa_gS18 : gXa < gS18 := by have := HXa.lt; omega
        have n_gS22_gS18 : gS22 < gS18 := by have := HS22.lt; omega
        have lgS18 : w.heap.size ≤ gS18 := by have := HB.size; omega
        replace HXa := HXa.low hb
        replace HS := HS.trans (hb.mono HS.size)
        replace HS22 := HS22.low hb
        replace HB := HB.trans (hb.mono HB.size)
        clear hb
        clear egS18
        refine Fw.hNext HS ?_
        refine Fw.hAll1 2 (by kernel_rfl) ?_
        refine Fw.hOp 2 rfl ?_
        refine Fw.append (base := w2.heap.size) (l.length) (vs) slAct rfl rfl (Fw.own_blk (n := 0) HS18 rgS18 (by decide) rfl) (hvr.low HB) hvs.1 hvs.one (⟨by unfold maxLen; omega, by omega⟩) HS.size (by simp) rfl rfl ?_
        intro A20 c20 w25 N_ hbb hc _
        replace HS22 := HS22.chg hc (by simp [Value.ownBlock]; omega)
        replace HXa := HXa.below hbb hXa0
        replace HS := HS.trans hbb
        replace HB := HB.trans (hbb.mono hB0)
        clear hbb hc
        have HO20 := N_
        clear N_
        refine Fw.hNext HS ?_
        refine Fw.hAll1 5 (by kernel_rfl) ?_
        refine Fw.hOp 5 rfl ?_
        refine Fw.append (base := w2.heap.size) ((l ++ [a]).length) (vs ++ #[.int .u8 a.kind, .slice A2 a.b.length c2, .int .i64 a.n, .int .u8 a.m].toList) slAct rfl rfl HO20 (Fw.rdBlk HS22) rfl (Fw.oneCellsL rfl) (⟨by unfold maxLen; omega, by omega⟩) HS.size (by simp) rfl rfl ?_
        intro A23 c23 w26 N_ hbb hc _
        replace HXa := HXa.below hbb hXa0
        replace HS := HS.trans hbb
        replace HB := HB.trans (hbb.mono hB0)
        clear hbb hc
        have HO23 := N_
        clear N_
        obtain ⟨g2, rfl, _⟩ := own_addr HO23 (by simp)
        refine Fw.hNext HS ?_
        refine Fw.hAll1 6 (by kernel_rfl) ?_
        refine Fw.hOp 6 rfl ?_
        refine Fw.call cf14 rfl rfl (small_any _ (some ⟨g2, 0, none⟩) (l ++ [a]) c23 (((hvs.snoc ha).low HB).acts (Rd.of_own HO23)) (by unfold maxLen; simp; omega) hbig2) ?_
        rintro e_ w27 ⟨rfl, hb⟩
        refine ⟨_, rfl, ?_⟩
        replace HXa := HXa.low hb
        replace HS := HS.trans (hb.mono HS.size)
        replace HO23 := own_below HO23 hb (Nat.le_refl _)
        replace HB := HB.trans (hb.mono HB.size)
        clear hb
        rw [decide_eq_true hs]
        refine Fw.bT (by rfl) ?_
        refine Fw.hNext HS ?_
        refine Fw.hTake 7 rfl rfl (by kernel_rfl) (by kernel_rfl) (by kernel_rfl) (Fw.yV (Fw.val_not rfl)) rfl ?_
        refine Fw.hDone (by kernel_rfl) ?_
        refine hK14 _ _ (Fw.FC.sub (f' := [(25, _), (3, _), (0, _)]) (.cons rfl (.cons rfl (.cons rfl .nil))) ?_)
        refine Fw.condF rfl ?_
        refine Fw.skip ?_
        exact hK4 _ _ ⟨HXa, HB⟩ (.cons rfl (.cons rfl .nil))
  · skip
    refine Fw.calls Try.func8 rfl Try.ntmps8 rfl ?_
    have HB := Below.refl (w.heap.size) w
    refine Fw.seq fun _ hK1 => ?_
    refine Fw.region ?_
    refine Fw.box rfl rfl ?_
    intro w1 gXa egXa HXa hb
    have lgXa : w.heap.size ≤ gXa := by have := HB.size; omega
    replace HB := HB.trans (hb.mono HB.size)
    clear hb
    clear egXa
    refine Fw.s (Fw.val_assign rfl) rfl ?_
    refine Fw.nil ?_
    refine hK1 _ _ ?_
    refine Fw.seq fun _ hK2 => ?_
    refine Fw.seq fun _ hK3 => ?_
    refine Fw.region ?_
    refine Fw.call cf9 rfl rfl (wakes_any _) ?_
    rintro e_ w2 ⟨rfl, hb⟩
    refine ⟨_, rfl, ?_⟩
    replace HXa := HXa.low hb
    replace HB := HB.trans (hb.mono HB.size)
    clear hb
    refine Fw.bT (by rfl) ?_
    refine Fw.s (Fw.val_not rfl) rfl ?_
    refine Fw.nil ?_
    refine hK3 _ _ ?_
    refine Fw.condF rfl ?_
    refine Fw.skip ?_
    refine hK2 _ _ ?_
    refine Fw.seq fun _ hK4 => ?_
    refine Fw.seq fun _ hK5 => ?_
    have hXa0 := HXa.lt
    have hB0 := HB.size
    refine Fw.regionH (by kernel_rfl) ?_
    have R_HXa := HXa
    have R_HB := HB
    intro w3 hb
    have HS := hb
    replace HXa := HXa.low hb
    replace HB := HB.trans (hb.mono HB.size)
    clear hb
    refine Fw.hTake 1 rfl rfl (by kernel_rfl) (by kernel_rfl) (by kernel_rfl) (Fw.yV (Fw.val_move rfl)) rfl ?_
    refine Fw.hTake 3 rfl rfl (by kernel_rfl) (by kernel_rfl) (by kernel_rfl) (Fw.yV (Fw.hLdA ag39 rfl (Fw.rdBlk R_HXa) rfl)) rfl ?_
    refine Fw.hAll2 0 4 (by kernel_rfl) ?_ ?_
    · skip
      refine Fw.hOp 0 rfl ?_
      refine Fw.buildSlice [] sl34 rfl rfl (by exact Fw.allSz rfl) (by decide) rfl ?_
      intro w4 gS18 egS18 HS18 hb
      have rgS18 : w2.heap.size ≤ gS18 := by have := HS.size; omega
      have n_gXa_gS18 : gXa < gS18 := by have := HXa.lt; omega
      have lgS18 : w.heap.size ≤ gS18 := by have := HB.size; omega
      replace HXa := HXa.low hb
      replace HS := HS.trans (hb.mono HS.size)
      replace HB := HB.trans (hb.mono HB.size)
      clear hb
      clear egS18
      refine Fw.hNext HS ?_
      refine Fw.hAll2 2 4 (by kernel_rfl) ?_ ?_
      · skip
        refine Fw.hOp 2 rfl ?_
        refine Fw.append (base := w2.heap.size) (l.length) (vs) slAct rfl rfl (Fw.own_blk (n := 0) HS18 rgS18 (by decide) rfl) (hvr.low HB) hvs.1 hvs.one (⟨by unfold maxLen; omega, by omega⟩) HS.size (by simp) rfl rfl ?_
        intro A20 c20 w5 N_ hbb hc _
        replace HXa := HXa.below hbb hXa0
        replace HS := HS.trans hbb
        replace HB := HB.trans (hbb.mono hB0)
        clear hbb hc
        have HO20 := N_
        clear N_
        refine Fw.hNext HS ?_
        refine Fw.hAll1 4 (by kernel_rfl) ?_
        refine Fw.hOp 4 rfl ?_
        refine Fw.buildSlice [_] sl34 rfl rfl (by exact Fw.allSz rfl) (by decide) rfl ?_
        intro w6 gS22 egS22 HS22 hb
        have rgS22 : w2.heap.size ≤ gS22 := by have := HS.size; omega
        have n_gXa_gS22 : gXa < gS22 := by have := HXa.lt; omega
        have lgS22 : w.heap.size ≤ gS22 := by have := HB.size; omega
        replace HXa := HXa.low hb
        replace HS := HS.trans (hb.mono HS.size)
        replace HO20 := own_below HO20 hb (Nat.le_refl _)
        replace HB := HB.trans (hb.mono HB.size)
        clear hb
        clear egS22
        refine Fw.hNext HS ?_
        refine Fw.hAll1 5 (by kernel_rfl) ?_
        refine Fw.hOp 5 rfl ?_
        refine Fw.append (base := w2.heap.size) ((l ++ [a]).length) (vs ++ #[.int .u8 a.kind, .slice A2 a.b.length c2, .int .i64 a.n, .int .u8 a.m].toList) slAct rfl rfl HO20 (Fw.rdBlk HS22) rfl (Fw.oneCellsL rfl) (⟨by unfold maxLen; omega, by omega⟩) HS.size (by simp) rfl rfl ?_
        intro A23 c23 w7 N_ hbb hc _
        replace HXa := HXa.below hbb hXa0
        replace HS := HS.trans hbb
        replace HB := HB.trans (hbb.mono hB0)
        clear hbb hc
        have HO23 := N_
        clear N_
        obtain ⟨g2, rfl, _⟩ := own_addr HO23 (by simp)
        refine Fw.hNext HS ?_
        refine Fw.hAll1 6 (by kernel_rfl) ?_
        refine Fw.hOp 6 rfl ?_
        refine Fw.call cf14 rfl rfl (small_any _ (some ⟨g2, 0, none⟩) (l ++ [a]) c23 (((hvs.snoc ha).low HB).acts (Rd.of_own HO23)) (by unfold maxLen; simp; omega) hbig2) ?_
        rintro e_ w8 ⟨rfl, hb⟩
        refine ⟨_, rfl, ?_⟩
        replace HXa := HXa.low hb
        replace HS := HS.trans (hb.mono HS.size)
        replace HO23 := own_below HO23 hb (Nat.le_refl _)
        replace HB := HB.trans (hb.mono HB.size)
        clear hb
        rw [decide_eq_false hs]
        refine Fw.bF (by rfl) ?_
        refine Fw.hNext HS ?_
        refine Fw.hTake 7 rfl rfl (by kernel_rfl) (by kernel_rfl) (by kernel_rfl) (Fw.yV (Fw.val_not rfl)) rfl ?_
        refine Fw.hDone (by kernel_rfl) ?_
        refine hK5 _ _ (Fw.FC.sub (f' := [(25, _), (3, _), (0, _)]) (.cons rfl (.cons rfl (.cons rfl .nil))) ?_)
        refine Fw.condT rfl ?_
        refine Fw.seq fun _ hK6 => ?_
        refine Fw.region ?_
        refine Fw.s (Fw.val_assign rfl) rfl ?_
        refine Fw.nil ?_
        refine hK6 _ _ ?_
        refine Fw.ret ?_
        refine Fw.X_ret ?_
        refine Fw.ret_ [.tmp 4] [_] Try.results8 (.tmp rfl .nil) ?_
        exact ⟨rfl, HB⟩
      · skip
        refine Fw.hOp 4 rfl ?_
        refine Fw.buildSlice [_] sl34 rfl rfl (by exact Fw.allSz rfl) (by decide) rfl ?_
        intro w9 gS22 egS22 HS22 hb
        have rgS22 : w2.heap.size ≤ gS22 := by have := HS.size; omega
        have n_gXa_gS22 : gXa < gS22 := by have := HXa.lt; omega
        have n_gS18_gS22 : gS18 < gS22 := by have := HS18.lt; omega
        have lgS22 : w.heap.size ≤ gS22 := by have := HB.size; omega
        replace HXa := HXa.low hb
        replace HS := HS.trans (hb.mono HS.size)
        replace HS18 := HS18.low hb
        replace HB := HB.trans (hb.mono HB.size)
        clear hb
        clear egS22
        refine Fw.hNext HS ?_
        refine Fw.hAll1 2 (by kernel_rfl) ?_
        refine Fw.hOp 2 rfl ?_
        refine Fw.append (base := w2.heap.size) (l.length) (vs) slAct rfl rfl (Fw.own_blk (n := 0) HS18 rgS18 (by decide) rfl) (hvr.low HB) hvs.1 hvs.one (⟨by unfold maxLen; omega, by omega⟩) HS.size (by simp) rfl rfl ?_
        intro A20 c20 w10 N_ hbb hc _
        replace HS22 := HS22.chg hc (by simp [Value.ownBlock]; omega)
        replace HXa := HXa.below hbb hXa0
        replace HS := HS.trans hbb
        replace HB := HB.trans (hbb.mono hB0)
        clear hbb hc
        have HO20 := N_
        clear N_
        refine Fw.hNext HS ?_
        refine Fw.hAll1 5 (by kernel_rfl) ?_
        refine Fw.hOp 5 rfl ?_
        refine Fw.append (base := w2.heap.size) ((l ++ [a]).length) (vs ++ #[.int .u8 a.kind, .slice A2 a.b.length c2, .int .i64 a.n, .int .u8 a.m].toList) slAct rfl rfl HO20 (Fw.rdBlk HS22) rfl (Fw.oneCellsL rfl) (⟨by unfold maxLen; omega, by omega⟩) HS.size (by simp) rfl rfl ?_
        intro A23 c23 w11 N_ hbb hc _
        replace HXa := HXa.below hbb hXa0
        replace HS := HS.trans hbb
        replace HB := HB.trans (hbb.mono hB0)
        clear hbb hc
        have HO23 := N_
        clear N_
        obtain ⟨g2, rfl, _⟩ := own_addr HO23 (by simp)
        refine Fw.hNext HS ?_
        refine Fw.hAll1 6 (by kernel_rfl) ?_
        refine Fw.hOp 6 rfl ?_
        refine Fw.call cf14 rfl rfl (small_any _ (some ⟨g2, 0, none⟩) (l ++ [a]) c23 (((hvs.snoc ha).low HB).acts (Rd.of_own HO23)) (by unfold maxLen; simp; omega) hbig2) ?_
        rintro e_ w12 ⟨rfl, hb⟩
        refine ⟨_, rfl, ?_⟩
        replace HXa := HXa.low hb
        replace HS := HS.trans (hb.mono HS.size)
        replace HO23 := own_below HO23 hb (Nat.le_refl _)
        replace HB := HB.trans (hb.mono HB.size)
        clear hb
        rw [decide_eq_false hs]
        refine Fw.bF (by rfl) ?_
        refine Fw.hNext HS ?_
        refine Fw.hTake 7 rfl rfl (by kernel_rfl) (by kernel_rfl) (by kernel_rfl) (Fw.yV (Fw.val_not rfl)) rfl ?_
        refine Fw.hDone (by kernel_rfl) ?_
        refine hK5 _ _ (Fw.FC.sub (f' := [(25, _), (3, _), (0, _)]) (.cons rfl (.cons rfl (.cons rfl .nil))) ?_)
        refine Fw.condT rfl ?_
        refine Fw.seq fun _ hK7 => ?_
        refine Fw.region ?_
        refine Fw.s (Fw.val_assign rfl) rfl ?_
        refine Fw.nil ?_
        refine hK7 _ _ ?_
        refine Fw.ret ?_
        refine Fw.X_ret ?_
        refine Fw.ret_ [.tmp 4] [_] Try.results8 (.tmp rfl .nil) ?_
        exact ⟨rfl, HB⟩
    · skip
      refine Fw.hOp 4 rfl ?_
      refine Fw.buildSlice [_] sl34 rfl rfl (by exact Fw.allSz rfl) (by decide) rfl ?_
      intro w13 gS22 egS22 HS22 hb
      have rgS22 : w2.heap.size ≤ gS22 := by have := HS.size; omega
      have n_gXa_gS22 : gXa < gS22 := by have := HXa.lt; omega
      have lgS22 : w.heap.size ≤ gS22 := by have := HB.size; omega
      replace HXa := HXa.low hb
      replace HS := HS.trans (hb.mono HS.size)
      replace HB := HB.trans (hb.mono HB.size)
      clear hb
      clear egS22
      refine Fw.hNext HS ?_
      refine Fw.hAll1 0 (by kernel_rfl) ?_
      refine Fw.hOp 0 rfl ?_
      refine Fw.buildSlice [] sl34 rfl rfl (by exact Fw.allSz rfl) (by decide) rfl ?_
      intro w14 gS18 egS18 HS18 hb
      have rgS18 : w2.heap.size ≤ gS18 := by have := HS.size; omega
      have n_gXa_gS18 : gXa < gS18 := by have := HXa.lt; omega
      have n_gS22_gS18 : gS22 < gS18 := by have := HS22.lt; omega
      have lgS18 : w.heap.size ≤ gS18 := by have := HB.size; omega
      replace HXa := HXa.low hb
      replace HS := HS.trans (hb.mono HS.size)
      replace HS22 := HS22.low hb
      replace HB := HB.trans (hb.mono HB.size)
      clear hb
      clear egS18
      refine Fw.hNext HS ?_
      refine Fw.hAll1 2 (by kernel_rfl) ?_
      refine Fw.hOp 2 rfl ?_
      refine Fw.append (base := w2.heap.size) (l.length) (vs) slAct rfl rfl (Fw.own_blk (n := 0) HS18 rgS18 (by decide) rfl) (hvr.low HB) hvs.1 hvs.one (⟨by unfold maxLen; omega, by omega⟩) HS.size (by simp) rfl rfl ?_
      intro A20 c20 w15 N_ hbb hc _
      replace HS22 := HS22.chg hc (by simp [Value.ownBlock]; omega)
      replace HXa := HXa.below hbb hXa0
      replace HS := HS.trans hbb
      replace HB := HB.trans (hbb.mono hB0)
      clear hbb hc
      have HO20 := N_
      clear N_
      refine Fw.hNext HS ?_
      refine Fw.hAll1 5 (by kernel_rfl) ?_
      refine Fw.hOp 5 rfl ?_
      refine Fw.append (base := w2.heap.size) ((l ++ [a]).length) (vs ++ #[.int .u8 a.kind, .slice A2 a.b.length c2, .int .i64 a.n, .int .u8 a.m].toList) slAct rfl rfl HO20 (Fw.rdBlk HS22) rfl (Fw.oneCellsL rfl) (⟨by unfold maxLen; omega, by omega⟩) HS.size (by simp) rfl rfl ?_
      intro A23 c23 w16 N_ hbb hc _
      replace HXa := HXa.below hbb hXa0
      replace HS := HS.trans hbb
      replace HB := HB.trans (hbb.mono hB0)
      clear hbb hc
      have HO23 := N_
      clear N_
      obtain ⟨g2, rfl, _⟩ := own_addr HO23 (by simp)
      refine Fw.hNext HS ?_
      refine Fw.hAll1 6 (by kernel_rfl) ?_
      refine Fw.hOp 6 rfl ?_
      refine Fw.call cf14 rfl rfl (small_any _ (some ⟨g2, 0, none⟩) (l ++ [a]) c23 (((hvs.snoc ha).low HB).acts (Rd.of_own HO23)) (by unfold maxLen; simp; omega) hbig2) ?_
      rintro e_ w17 ⟨rfl, hb⟩
      refine ⟨_, rfl, ?_⟩
      replace HXa := HXa.low hb
      replace HS := HS.trans (hb.mono HS.size)
      replace HO23 := own_below HO23 hb (Nat.le_refl _)
      replace HB := HB.trans (hb.mono HB.size)
      clear hb
      rw [decide_eq_false hs]
      refine Fw.bF (by rfl) ?_
      refine Fw.hNext HS ?_
      refine Fw.hTake 7 rfl rfl (by kernel_rfl) (by kernel_rfl) (by kernel_rfl) (Fw.yV (Fw.val_not rfl)) rfl ?_
      refine Fw.hDone (by kernel_rfl) ?_
      refine hK5 _ _ (Fw.FC.sub (f' := [(25, _), (3, _), (0, _)]) (.cons rfl (.cons rfl (.cons rfl .nil))) ?_)
      refine Fw.condT rfl ?_
      refine Fw.seq fun _ hK8 => ?_
      refine Fw.region ?_
      refine Fw.s (Fw.val_assign rfl) rfl ?_
      refine Fw.nil ?_
      refine hK8 _ _ ?_
      refine Fw.ret ?_
      refine Fw.X_ret ?_
      refine Fw.ret_ [.tmp 4] [_] Try.results8 (.tmp rfl .nil) ?_
      exact ⟨rfl, HB⟩
end Go.Proofs.Ytmabbdkckdpeoaa
