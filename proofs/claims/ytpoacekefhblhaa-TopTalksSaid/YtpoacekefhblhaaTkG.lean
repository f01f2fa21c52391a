/- TopTalks: package interview: what reads. -/
import Derived.Test.YtpoacekefhblhaaTkF
namespace Go.Proofs.Ytpoacekefhblhaa
set_option linter.unusedSimpArgs false
set_option linter.unusedVariables false
open Go.RowKit

set_option maxRecDepth 100000 in
set_option maxHeartbeats 1000000 in
theorem copyQ_any (w : World) (q : Tk.Qu) (hr : Rd w q.A (q.an.flatMap Tk.An.cells)) (hl : 0 < q.an.length) (hl2 : q.an.length ≤ 65536) : Calls Try.prog 24 #[.agg #[.string q.text, .slice q.A q.an.length q.c]] w fun e_ w' => ∃ A c, e_ = .returned (.agg #[.string q.text, .slice A q.an.length c]) ∧ w'.ownsRow w.heap.size 68 4 (.slice A q.an.length c) q.an.length (q.an.flatMap Tk.An.cells) ∧ Below w.heap.size w w' := by
  refine Fw.calls Try.func24 rfl Try.ntmps24 rfl ?_
  have HB := Below.refl (w.heap.size) w
  refine Fw.seq fun _ hK1 => ?_
  refine Fw.region ?_
  refine Fw.box rfl rfl ?_
  intro w1 gq egq Hq hb
  have lgq : w.heap.size ≤ gq := by have := HB.size; omega
  replace HB := HB.trans (hb.mono HB.size)
  clear hb
  clear egq
  refine Fw.alloc ze30 rfl ?_
  intro w2 gr egr Hr hb
  have n_gq_gr : gq < gr := by have := Hq.lt; omega
  have lgr : w.heap.size ≤ gr := by have := HB.size; omega
  replace Hq := Hq.low hb
  replace HB := HB.trans (hb.mono HB.size)
  clear hb
  clear egr
  refine Fw.nil ?_
  refine hK1 _ _ ?_
  refine Fw.seq fun _ hK2 => ?_
  refine Fw.regionL 6 (by kernel_rfl) ?_
  have R_Hq := Hq
  have R_Hr := Hr
  have R_HB := HB
  intro w3 hb
  have HS := hb
  replace Hq := Hq.low hb
  replace Hr := Hr.low hb
  replace HB := HB.trans (hb.mono HB.size)
  clear hb
  refine Fw.lTk 0 rfl rfl (Fw.yV (Fw.val_fieldAddr fl30_0 rfl rfl)) rfl ?_
  refine Fw.lTk 1 rfl rfl (Fw.yV (Fw.hLd sc9 rfl (R_Hq.cell 0))) rfl ?_
  refine Fw.lTk 2 rfl rfl (Fw.yV (Fw.val_fieldAddr fl30_1 rfl rfl)) rfl ?_
  refine Fw.lTk 3 rfl rfl (Fw.yV (Fw.hLd sc28 rfl (R_Hq.cell 1))) rfl ?_
  refine Fw.lOp 4 rfl (by kernel_rfl) ?_
  refine Fw.call cf33 rfl rfl (cloneA_any _ q.A q.an q.c (hr.low HB) (by omega) hl) ?_
  rintro e_ w4 ⟨A7, c7, rfl, HO, hb⟩
  refine ⟨_, rfl, ?_⟩
  replace HO := own_base HO HB.size
  replace Hq := Hq.low hb
  replace Hr := Hr.low hb
  replace HS := HS.trans (hb.mono HS.size)
  replace HB := HB.trans (hb.mono HB.size)
  clear hb
  refine Fw.lNext HS ?_
  refine Fw.lTk 5 rfl rfl (Fw.yV (Fw.val_build (ps := [(0, _), (1, _)]) rfl (bu30_0_1 _ _ _ _))) rfl ?_
  refine Fw.lLast rfl (by kernel_rfl) (by kernel_rfl) ?_
  refine Fw.storeW sz30 rfl rfl Hr rfl rfl (by exact Fw.oneCells rfl) ?_
  intro w5 N_ hc
  replace Hq := Hq.chg hc (by omega)
  replace HO := own_to HO hc (fun g_ h_ e_ => own_ne HO Hr (by decide) (by rw [h_, e_]))
  replace HB := HB.trans (hc.below (B := w.heap.size) (fun k e => by omega) HB.size)
  clear hc
  clear Hr
  have Hr := N_
  clear N_
  replace Hr : Blk w5 gr 30 #[.string q.text, .slice A7 q.an.length c7] := Hr
  refine Fw.nil ?_
  refine hK2 _ _ (Fw.FC.sub (f' := [(2, _)]) (.cons rfl .nil) ?_)
  refine Fw.ret ?_
  refine Fw.ret_ [.cell 2 30] [_] Try.results24 (Fw.ResL.cellM rfl ag30 (Fw.rdBlk Hr) rfl .nil) ?_
  exact ⟨A7, c7, rfl, HO, HB⟩

set_option maxRecDepth 100000 in
set_option maxHeartbeats 1000000 in
theorem answers_any (w : World) (B g : Nat) (nm : ByteArray) (ver : Int) (qs : List Tk.Qu) (l : List Nat) (hI : Tk.IvAt w B g nm ver qs l) (hl : l.length ≤ 65536) : Calls Try.prog 11 #[.pointer (some ⟨g, 0, none⟩)] w fun e_ w' => ∃ A c, e_ = .returned (.slice A l.length c) ∧ w'.ownsRow w.heap.size 3 1 (.slice A l.length c) l.length (Tk.nats l) ∧ Below w.heap.size w w' := by
  obtain ⟨Ti, cq, A2, c2, A3, c3, HX, HT, HA, HN, HK, hdj, hBg⟩ := hI
  have hgl := HX.lt
  refine Fw.calls Try.func11 rfl Try.ntmps11 rfl ?_
  have HB := Below.refl (w.heap.size) w
  refine Fw.seq fun _ hK1 => ?_
  refine Fw.region ?_
  refine Fw.s (Fw.val_assign rfl) rfl ?_
  refine Fw.nil ?_
  refine hK1 _ _ ?_
  refine Fw.seq fun _ hK2 => ?_
  refine Fw.region ?_
  refine Fw.s (Fw.val_move rfl) rfl ?_
  refine Fw.s (Fw.val_nil rfl) rfl ?_
  refine Fw.s (Fw.val_fieldAddr fl62_1 rfl rfl) rfl ?_
  refine Fw.ld sc42 rfl ((HX.low HB).cell 3) rfl ?_
  refine Fw.call cf28 rfl rfl (cloneI_any _ A2 l c2 ((Rd.of_own HN).low HB) hl) ?_
  rintro e_ w1 ⟨A7, c7, rfl, HO, hb⟩
  refine ⟨_, rfl, ?_⟩
  replace HO := own_base HO HB.size
  replace HB := HB.trans (hb.mono HB.size)
  clear hb
  refine Fw.s (Fw.val_assign rfl) rfl ?_
  refine Fw.nil ?_
  refine hK2 _ _ (Fw.FC.sub (f' := [(2, _)]) (.cons rfl .nil) ?_)
  refine Fw.ret ?_
  refine Fw.ret_ [.tmp 2] [_] Try.results11 (.tmp rfl .nil) ?_
  exact ⟨A7, c7, rfl, HO, HB⟩

set_option maxRecDepth 100000 in
set_option maxHeartbeats 1000000 in
theorem question_any (w : World) (B g : Nat) (nm : ByteArray) (ver : Int) (qs : List Tk.Qu) (l : List Nat) (hI : Tk.IvAt w B g nm ver qs l) (hv : Tk.VP nm ver qs) (hw : Tk.Wy qs l) : Calls Try.prog 10 #[.pointer (some ⟨g, 0, none⟩)] w fun e_ w' => ∃ tx A n c b, e_ = .returned (.tuple #[.agg #[.string tx, .slice A n c], .bool b]) ∧ (b = true ↔ Tk.cur qs l ≠ -1) ∧ (b = true → ∃ h : (Tk.cur qs l).toNat < qs.length, 0 ≤ Tk.cur qs l ∧ n = qs[(Tk.cur qs l).toNat].an.length) ∧ Below w.heap.size w w' := by
  obtain ⟨Ti, cq, A2, c2, A3, c3, HX, HT, HA, HN, HK, hdj, hBg⟩ := hI
  have hgl := HX.lt
  refine Fw.calls Try.func10 rfl Try.ntmps10 rfl ?_
  have HB := Below.refl (w.heap.size) w
  refine Fw.seq fun _ hK1 => ?_
  refine Fw.region ?_
  refine Fw.alloc ze30 rfl ?_
  intro w1 gr egr Hr hb
  have lgr : w.heap.size ≤ gr := by have := HB.size; omega
  replace HB := HB.trans (hb.mono HB.size)
  clear hb
  clear egr
  refine Fw.s (Fw.val_assign rfl) rfl ?_
  refine Fw.nil ?_
  refine hK1 _ _ ?_
  refine Fw.seq fun _ hK2 => ?_
  refine Fw.seq fun _ hK3 => ?_
  refine Fw.region ?_
  refine Fw.s (Fw.val_move rfl) rfl ?_
  refine Fw.s (Fw.val_nil rfl) rfl ?_
  refine Fw.s (Fw.val_fieldAddr fl62_3 rfl rfl) rfl ?_
  refine Fw.ld sc3 rfl ((HX.low HB).cell 5) rfl ?_
  refine Fw.s2 (Fw.val_bin rfl rfl Fw.b_eql) rfl ?_ ?_
  · rintro hcu
    refine Fw.nil ?_
    refine hK3 _ _ ?_
    refine Fw.condT rfl ?_
    refine Fw.seq fun _ hK5 => ?_
    refine Fw.region ?_
    refine Fw.s (Fw.val_build (ps := []) rfl (bu30_)) rfl ?_
    refine Fw.storeW sz30 rfl rfl Hr rfl rfl (by exact Fw.oneCells rfl) ?_
    intro w2 N_ hc
    replace HB := HB.trans (hc.below (B := w.heap.size) (fun k e => by omega) HB.size)
    clear hc
    clear Hr
    have Hr := N_
    clear N_
    replace Hr : Blk w2 gr 30 #[.string ByteArray.empty, .slice none 0 0] := Hr
    refine Fw.s (Fw.val_assign rfl) rfl ?_
    refine Fw.nil ?_
    refine hK5 _ _ (Fw.FC.sub (f' := [(3, _), (2, _)]) (.cons rfl (.cons rfl .nil)) ?_)
    refine Fw.ret ?_
    refine Fw.X_ret ?_
    refine Fw.ret_ [.cell 2 30, .tmp 3] [_, _] Try.results10 (Fw.ResL.cellM rfl ag30 (Fw.rdBlk Hr) rfl (.tmp rfl .nil)) ?_
    exact ⟨_, _, _, _, false, rfl, ⟨fun h => Bool.noConfusion h, fun h => absurd hcu h⟩, fun h => Bool.noConfusion h, HB⟩
  · rintro hcu
    refine Fw.nil ?_
    refine hK3 _ _ ?_
    refine Fw.condF rfl ?_
    refine Fw.skip ?_
    refine hK2 _ _ ?_
    refine Fw.seq fun _ hK6 => ?_
    have hc := (Tk.cur_or hv l hw).resolve_left (fun h => hcu h.1)
    obtain ⟨adq, bq_, oq_, hAq, haddq, HQe⟩ := Fw.rdAt Tk.Qu.len (by decide) HT.1 (Tk.cur qs l).toNat hc.2
    have hqv := (hv.1 _ (List.getElem_mem hc.2)).2.1
    refine Fw.regionHS (Chg (· = gr) w1) (by kernel_rfl) (Chg.of_below (Fw.drew_low w1) _) ?_
    have R_Hr := Hr
    have R_HB := HB
    intro w3 hb HS
    replace Hr := Hr.low hb
    replace HB := HB.trans (hb.mono HB.size)
    clear hb
    refine Fw.hTk 0 rfl rfl (Fw.yV (Fw.val_move rfl)) rfl ?_
    refine Fw.hTk 1 rfl rfl (Fw.yV (Fw.val_nil rfl)) rfl ?_
    refine Fw.hTk 2 rfl rfl (Fw.yV (Fw.val_fieldAddr fl62_0 rfl rfl)) rfl ?_
    refine Fw.hTk 3 rfl rfl (Fw.yV (Fw.val_fieldAddr fl24_2 rfl rfl)) rfl ?_
    refine Fw.hTk 4 rfl rfl (Fw.yV (Fw.hLdC sc22 rfl ((HX.low R_HB).cell 2) (by show ¬ g = gr; omega))) rfl ?_
    refine Fw.hTk 5 rfl rfl (Fw.yV (Fw.val_move rfl)) rfl ?_
    refine Fw.hTk 6 rfl rfl (Fw.yV (Fw.val_nil rfl)) rfl ?_
    refine Fw.hTk 7 rfl rfl (Fw.yV (Fw.val_fieldAddr fl62_3 rfl rfl)) rfl ?_
    refine Fw.hTk 8 rfl rfl (Fw.yV (Fw.hLdC sc3 rfl ((HX.low R_HB).cell 5) (by show ¬ g = gr; omega))) rfl ?_
    refine Fw.hTk 9 rfl rfl (Fw.yV (Fw.val_indexR Try.underlying22 sz30 rfl hAq rfl (by omega) hc.2 haddq)) rfl ?_
    refine Fw.hAll1 10 (by kernel_rfl) ?_
    refine Fw.hOp 10 rfl ?_
    refine Fw.ldA ag30 rfl ((HQe.low HB)) rfl rfl ?_
    refine Fw.hNext HS ?_
    refine Fw.hAll1 11 (by kernel_rfl) ?_
    refine Fw.hOp 11 rfl ?_
    refine Fw.call cf24 rfl rfl (copyQ_any _ qs[(Tk.cur qs l).toNat] ((HA _ (List.getElem_mem hc.2)).1.low HB) (by omega) (by omega)) ?_
    rintro e_ w4 ⟨A7, c7, rfl, HO, hb⟩
    refine ⟨_, rfl, ?_⟩
    clear HO
    replace Hr := Hr.low hb
    replace HS := HS.trans (Chg.of_below hb _) (fun _ _ h => h)
    replace HB := HB.trans (hb.mono HB.size)
    clear hb
    refine Fw.hNext HS ?_
    refine Fw.hAll1 12 (by kernel_rfl) ?_
    refine Fw.hOp 12 rfl ?_
    refine Fw.storeW sz30 rfl rfl Hr rfl rfl (by exact Fw.oneCells rfl) ?_
    intro w5 N_ hc
    replace HS := HS.trans hc (fun _ _ h => h)
    replace HB := HB.trans (hc.below (B := w.heap.size) (fun k e => by omega) HB.size)
    clear hc
    clear Hr
    have Hr := N_
    clear N_
    replace Hr : Blk w5 gr 30 #[.string qs[(Tk.cur qs l).toNat].text, .slice A7 qs[(Tk.cur qs l).toNat].an.length c7] := Hr
    refine Fw.hNext HS ?_
    refine Fw.hTk 13 rfl rfl (Fw.yV (Fw.val_assign rfl)) rfl ?_
    refine Fw.hDone (by kernel_rfl) ?_
    refine hK6 _ _ (Fw.FC.sub (f' := [(3, _), (2, _)]) (.cons rfl (.cons rfl .nil)) ?_)
    refine Fw.ret ?_
    refine Fw.ret_ [.cell 2 30, .tmp 3] [_, _] Try.results10 (Fw.ResL.cellM rfl ag30 (Fw.rdBlk Hr) rfl (.tmp rfl .nil)) ?_
    exact ⟨_, _, _, _, true, rfl, ⟨fun _ => hcu, fun _ => rfl⟩, fun _ => ⟨hc.2, hc.1, rfl⟩, HB⟩

set_option maxRecDepth 100000 in
set_option maxHeartbeats 1000000 in
theorem result_any (w : World) (B g : Nat) (nm : ByteArray) (ver : Int) (qs : List Tk.Qu) (l : List Nat) (hI : Tk.IvAt w B g nm ver qs l) (hv : Tk.VP nm ver qs) (hw : Tk.Wy qs l) (hl : l.length ≤ 65536) : Calls Try.prog 14 #[.pointer (some ⟨g, 0, none⟩)] w fun e_ w' => ∃ u cd b, e_ = .returned (.tuple #[.int .i64 u, .string cd, .bool b]) ∧ (b = true ↔ Tk.cur qs l = -1) ∧ Tk.Rs qs l u cd ∧ Below w.heap.size w w' := by
  obtain ⟨Ti, cq, A2, c2, A3, c3, HX, HT, HA, HN, HK, hdj, hBg⟩ := hI
  have hgl := HX.lt
  refine Fw.calls Try.func14 rfl Try.ntmps14 rfl ?_
  have HB := Below.refl (w.heap.size) w
  refine Fw.seq fun _ hK1 => ?_
  refine Fw.region ?_
  refine Fw.s (Fw.val_assign rfl) rfl ?_
  refine Fw.s (Fw.val_assign rfl) rfl ?_
  refine Fw.s (Fw.val_assign rfl) rfl ?_
  refine Fw.nil ?_
  refine hK1 _ _ ?_
  refine Fw.seq fun _ hK2 => ?_
  refine Fw.seq fun _ hK3 => ?_
  refine Fw.region ?_
  refine Fw.s (Fw.val_move rfl) rfl ?_
  refine Fw.s (Fw.val_nil rfl) rfl ?_
  refine Fw.s (Fw.val_fieldAddr fl62_3 rfl rfl) rfl ?_
  refine Fw.ld sc3 rfl ((HX.low HB).cell 5) rfl ?_
  refine Fw.s2 (Fw.val_bin rfl rfl Fw.b_neq) rfl ?_ ?_
  · rintro hcu
    refine Fw.nil ?_
    refine hK3 _ _ (Fw.FC.sub (f' := [(11, _), (0, _)]) (.cons rfl (.cons rfl .nil)) ?_)
    refine Fw.condT rfl ?_
    refine Fw.seq fun _ hK5 => ?_
    refine Fw.region ?_
    refine Fw.s (Fw.val_assign rfl) rfl ?_
    refine Fw.s (Fw.val_assign rfl) rfl ?_
    refine Fw.s (Fw.val_assign rfl) rfl ?_
    refine Fw.nil ?_
    refine hK5 _ _ ?_
    refine Fw.ret ?_
    refine Fw.X_ret ?_
    refine Fw.ret_ [.tmp 2, .tmp 3, .tmp 4] [_, _, _] Try.results14 (.tmp rfl (.tmp rfl (.tmp rfl .nil))) ?_
    exact ⟨_, _, false, rfl, ⟨fun h => Bool.noConfusion h, fun h => absurd h hcu⟩, .inl ⟨hcu, rfl, rfl⟩, HB⟩
  · rintro hcu
    refine Fw.nil ?_
    refine hK3 _ _ (Fw.FC.sub (f' := [(11, _), (0, _)]) (.cons rfl (.cons rfl .nil)) ?_)
    refine Fw.condF rfl ?_
    refine Fw.skip ?_
    refine hK2 _ _ ?_
    refine Fw.seq fun _ hK6 => ?_
    have hcu2 : Tk.cur qs l = -1 := Classical.byContradiction fun h => hcu h
    obtain ⟨l0, a, rfl⟩ : ∃ l0 a, l = l0 ++ [a] := by
      rcases List.eq_nil_or_concat l with e | ⟨l0, a, e⟩
      · subst e; exact absurd hcu2 (by show ¬ (0 : Int) = -1; decide)
      · exact ⟨l0, a, by rw [← List.concat_eq_append]; exact e⟩
    obtain ⟨hw0, x, hx⟩ := hw.init
    obtain ⟨hc0, hc1, hc2, hc3⟩ := Tk.ans_at hx
    have hln : (l0 ++ [a]).length = l0.length + 1 := by simp
    obtain ⟨adq, bq_, oq_, hAq, haddq, HQe⟩ := Fw.rdAt Tk.Qu.len (by decide) HT.1 (Tk.cur qs l0).toNat hc1
    obtain ⟨ada, ba_, oa_, hAa, hadda, HAe⟩ := Fw.rdAt Tk.An.len (by decide) (HA _ (List.getElem_mem hc1)).1 a hc2
    have HKr := Rd.of_own HK
    rw [Tk.askd_app] at HKr
    have hkl : l0.length < (Tk.askd qs l0 ++ [Tk.cur qs l0]).length := by rw [List.length_append, Tk.askd_len]; simp
    obtain ⟨adk, bk_, ok_, hAk, haddk, HKe⟩ := Fw.rdAtM HKr l0.length hkl
    rw [List.getElem_append_right (by rw [Tk.askd_len]; omega)] at HKe
    simp only [Tk.askd_len, Nat.sub_self, List.getElem_cons_zero] at HKe
    have hnl : l0.length < (l0 ++ [a]).length := by omega
    obtain ⟨adn, bn_, on_, hAn, haddn, HNe⟩ := Fw.rdAtM (Rd.of_own HN) l0.length hnl
    rw [List.getElem_append_right (by omega)] at HNe
    simp only [Nat.sub_self, List.getElem_cons_zero] at HNe
    refine Fw.region ?_
    refine Fw.s (Fw.val_move rfl) rfl ?_
    refine Fw.s (Fw.val_nil rfl) rfl ?_
    refine Fw.s (Fw.val_fieldAddr fl62_1 rfl rfl) rfl ?_
    refine Fw.ld sc42 rfl ((HX.low HB).cell 3) rfl ?_
    refine Fw.s (Fw.val_len Try.underlying42 rfl) rfl ?_
    refine Fw.s (Fw.val_bin rfl rfl (Fw.b_sub (Fw.i64_ok (by omega)))) rfl ?_
    refine Fw.s (Fw.val_assign rfl) rfl ?_
    refine Fw.nil ?_
    refine hK6 _ _ (Fw.FC.sub (f' := [(5, _), (0, _)]) (.cons rfl (.cons rfl .nil)) ?_)
    refine Fw.seq fun _ hK7 => ?_
    refine Fw.regionH (by kernel_rfl) ?_
    have R_HB := HB
    intro w1 hb
    have HS := hb
    replace HB := HB.trans (hb.mono HB.size)
    clear hb
    refine Fw.hTk 0 rfl rfl (Fw.yV (Fw.val_move rfl)) rfl ?_
    refine Fw.hTk 1 rfl rfl (Fw.yV (Fw.val_nil rfl)) rfl ?_
    refine Fw.hTk 2 rfl rfl (Fw.yV (Fw.val_fieldAddr fl62_0 rfl rfl)) rfl ?_
    refine Fw.hTk 3 rfl rfl (Fw.yV (Fw.val_fieldAddr fl24_2 rfl rfl)) rfl ?_
    refine Fw.hTk 4 rfl rfl (Fw.yV (Fw.hLd sc22 rfl ((HX.low R_HB).cell 2))) rfl ?_
    refine Fw.hTk 5 rfl rfl (Fw.yV (Fw.val_move rfl)) rfl ?_
    refine Fw.hTk 6 rfl rfl (Fw.yV (Fw.val_nil rfl)) rfl ?_
    refine Fw.hTk 7 rfl rfl (Fw.yV (Fw.val_fieldAddr fl62_2 rfl rfl)) rfl ?_
    refine Fw.hTk 8 rfl rfl (Fw.yV (Fw.hLd sc42 rfl ((HX.low R_HB).cell 4))) rfl ?_
    refine Fw.hTk 9 rfl rfl (Fw.yV (Fw.val_move rfl)) rfl ?_
    refine Fw.hTk 10 rfl rfl (Fw.yV (Fw.val_indexR Try.underlying42 sz3 rfl hAk rfl (by omega) (by omega) haddk)) rfl ?_
    refine Fw.hTk 11 rfl rfl (Fw.yV (Fw.hLd sc3 rfl (((R_HB.cell (World.block_lt_of_cell? _ _ HKe)).trans HKe)))) rfl ?_
    refine Fw.hTk 12 rfl rfl (Fw.yV (Fw.val_indexR Try.underlying22 sz30 rfl hAq rfl (by omega) hc1 haddq)) rfl ?_
    refine Fw.hTk 13 rfl rfl (Fw.yV (Fw.val_fieldAddr fl30_1 rfl rfl)) rfl ?_
    refine Fw.hTk 14 rfl rfl (Fw.yV (Fw.hLd sc28 rfl (Fw.rdCell (HQe.low R_HB) 1 rfl))) rfl ?_
    refine Fw.hTk 15 rfl rfl (Fw.yV (Fw.val_move rfl)) rfl ?_
    refine Fw.hTk 16 rfl rfl (Fw.yV (Fw.val_nil rfl)) rfl ?_
    refine Fw.hTk 17 rfl rfl (Fw.yV (Fw.val_fieldAddr fl62_1 rfl rfl)) rfl ?_
    refine Fw.hTk 18 rfl rfl (Fw.yV (Fw.hLd sc42 rfl ((HX.low R_HB).cell 3))) rfl ?_
    refine Fw.hTk 19 rfl rfl (Fw.yV (Fw.val_move rfl)) rfl ?_
    refine Fw.hTk 20 rfl rfl (Fw.yV (Fw.val_indexR Try.underlying42 sz3 rfl hAn rfl (by omega) hnl haddn)) rfl ?_
    refine Fw.hTk 21 rfl rfl (Fw.yV (Fw.hLd sc3 rfl (((R_HB.cell (World.block_lt_of_cell? _ _ HNe)).trans HNe)))) rfl ?_
    refine Fw.hTk 22 rfl rfl (Fw.yV (Fw.val_indexR Try.underlying28 sz68 rfl hAa rfl rfl hc2 hadda)) rfl ?_
    refine Fw.hTk 23 rfl rfl (Fw.yV (Fw.hLdA ag68 rfl ((HAe.low R_HB)) rfl)) rfl ?_
    refine Fw.hAll1 24 (by kernel_rfl) ?_
    refine Fw.hOp 24 rfl ?_
    refine Fw.alloc ze68 rfl ?_
    intro w2 ga ega Ha hb
    have rga : w.heap.size ≤ ga := by have := HS.size; omega
    have lga : w.heap.size ≤ ga := by have := HB.size; omega
    replace HS := HS.trans (hb.mono HS.size)
    replace HB := HB.trans (hb.mono HB.size)
    clear hb
    clear ega
    refine Fw.hNext HS ?_
    refine Fw.hAll1 25 (by kernel_rfl) ?_
    refine Fw.hOp 25 rfl ?_
    refine Fw.storeW sz68 rfl rfl Ha rfl rfl (by exact Fw.oneCells rfl) ?_
    intro w3 N_ hc
    replace HS := HS.trans (hc.below (B := w.heap.size) (fun k e => by omega) HS.size)
    replace HB := HB.trans (hc.below (B := w.heap.size) (fun k e => by omega) HB.size)
    clear hc
    clear Ha
    have Ha := N_
    clear N_
    replace Ha : Blk w3 ga 68 #[.string qs[(Tk.cur qs l0).toNat].an[a].text, .int .i64 qs[(Tk.cur qs l0).toNat].an[a].next, .int .i64 qs[(Tk.cur qs l0).toNat].an[a].urg, .string qs[(Tk.cur qs l0).toNat].an[a].code] := Ha
    refine Fw.hNext HS ?_
    refine Fw.hDone (by kernel_rfl) ?_
    refine hK7 _ _ (Fw.FC.sub (f' := [(6, _)]) (.cons rfl .nil) ?_)
    refine Fw.seq fun _ hK12 => ?_
    refine Fw.regionQ (by kernel_rfl) (by kernel_rfl) ?_
    refine Fw.q (Fw.val_fieldAddr fl68_2 rfl rfl) rfl ?_
    refine Fw.ldQ sc3 rfl (Ha.cell 2) rfl ?_
    refine Fw.q (Fw.val_fieldAddr fl68_3 rfl rfl) rfl ?_
    refine Fw.ldQ sc9 rfl (Ha.cell 3) rfl ?_
    refine Fw.q (Fw.val_assign rfl) rfl ?_
    refine Fw.q (Fw.val_assign rfl) rfl ?_
    refine Fw.q (Fw.val_assign rfl) rfl ?_
    refine Fw.nilQ ?_
    intro w4 hb
    replace Ha := Ha.low hb
    replace HB := HB.trans (hb.mono HB.size)
    clear hb
    refine hK12 _ _ ?_
    refine Fw.ret ?_
    refine Fw.ret_ [.tmp 2, .tmp 3, .tmp 4] [_, _, _] Try.results14 (.tmp rfl (.tmp rfl (.tmp rfl .nil))) ?_
    exact ⟨_, _, true, rfl, ⟨fun _ => hcu2, fun _ => rfl⟩, .inr ⟨hcu2, l0, a, x, rfl, hx, by rw [hc3], by rw [hc3]⟩, HB⟩

set_option maxRecDepth 100000 in
set_option maxHeartbeats 1000000 in
theorem ivrange_any (w : World) (B g : Nat) (nm : ByteArray) (ver : Int) (qs : List Tk.Qu) (l : List Nat) (hI : Tk.IvAt w B g nm ver qs l) (hv : Tk.VP nm ver qs) (hw : Tk.Wy qs l) (hl : l.length ≤ 65536) : Calls Try.prog 9 #[.pointer (some ⟨g, 0, none⟩)] w fun e_ w' => ∃ lo hi, e_ = .returned (.tuple #[.int .i64 lo, .int .i64 hi]) ∧ Tk.Ur qs l lo hi ∧ Below w.heap.size w w' := by
  have hI0 := hI
  obtain ⟨Ti, cq, A2, c2, A3, c3, HX, HT, HA, HN, HK, hdj, hBg⟩ := hI
  have hgl := HX.lt
  refine Fw.calls Try.func9 rfl Try.ntmps9 rfl ?_
  have HB := Below.refl (w.heap.size) w
  refine Fw.seq fun _ hK1 => ?_
  refine Fw.region ?_
  refine Fw.s (Fw.val_assign rfl) rfl ?_
  refine Fw.s (Fw.val_assign rfl) rfl ?_
  refine Fw.nil ?_
  refine hK1 _ _ ?_
  refine Fw.seq fun _ hK2 => ?_
  refine Fw.seq fun _ hK3 => ?_
  refine Fw.region ?_
  refine Fw.s (Fw.val_move rfl) rfl ?_
  refine Fw.call cf14 rfl rfl (result_any _ B g nm ver qs l (hI0.low HB) hv hw hl) ?_
  rintro e_ w1 ⟨u7, cd7, b7, rfl, h7, hrs, hb⟩
  refine ⟨_, rfl, ?_⟩
  replace HB := HB.trans (hb.mono HB.size)
  clear hb
  refine Fw.s (Fw.val_move rfl) rfl ?_
  refine Fw.s (Fw.val_extract rfl rfl) rfl ?_
  refine Fw.s (Fw.val_extract rfl rfl) rfl ?_
  refine Fw.s (Fw.val_extract rfl rfl) rfl ?_
  refine Fw.s (Fw.val_assign rfl) rfl ?_
  refine Fw.s (Fw.val_assign rfl) rfl ?_
  refine Fw.s (Fw.val_assign rfl) rfl ?_
  refine Fw.nil ?_
  refine hK3 _ _ (Fw.FC.sub (f' := [(6, _), (4, _), (0, _)]) (.cons rfl (.cons rfl (.cons rfl .nil))) ?_)
  refine Fw.seq fun _ hK4 => ?_
  refine Fw.region ?_
  refine Fw.s (Fw.val_move rfl) rfl ?_
  refine Fw.nil ?_
  refine hK4 _ _ ?_
  refine Fw.cond2 rfl ?_ ?_
  · intro hbb
    refine Fw.seq fun _ hK5 => ?_
    refine Fw.region ?_
    refine Fw.s (Fw.val_move rfl) rfl ?_
    refine Fw.s (Fw.val_move rfl) rfl ?_
    refine Fw.s (Fw.val_assign rfl) rfl ?_
    refine Fw.s (Fw.val_assign rfl) rfl ?_
    refine Fw.nil ?_
    refine hK5 _ _ ?_
    refine Fw.ret ?_
    refine Fw.X_ret ?_
    refine Fw.ret_ [.tmp 2, .tmp 3] [_, _] Try.results9 (.tmp rfl (.tmp rfl .nil)) ?_
    exact ⟨u7, u7, rfl, .inl ⟨h7.1 hbb, u7, cd7, hrs, rfl, rfl⟩, HB⟩
  · intro hbb
    refine Fw.skip ?_
    refine hK2 _ _ ?_
    refine Fw.seq fun _ hK6 => ?_
    have hcu : Tk.cur qs l ≠ -1 := fun h => by have := h7.2 h; rw [hbb] at this; simp at this
    have hc := (Tk.cur_or hv l hw).resolve_left (fun h => hcu h.1)
    refine Fw.regionH (by kernel_rfl) ?_
    have R_HB := HB
    intro w2 hb
    have HS := hb
    replace HB := HB.trans (hb.mono HB.size)
    clear hb
    refine Fw.hTk 0 rfl rfl (Fw.yV (Fw.val_move rfl)) rfl ?_
    refine Fw.hTk 1 rfl rfl (Fw.yV (Fw.val_nil rfl)) rfl ?_
    refine Fw.hTk 2 rfl rfl (Fw.yV (Fw.val_fieldAddr fl62_0 rfl rfl)) rfl ?_
    refine Fw.hTk 3 rfl rfl (Fw.yV (Fw.hLdA ag24 rfl (Fw.rdPart (Fw.rdBlk (HX.low R_HB)) 0 3) rfl)) rfl ?_
    refine Fw.hTk 4 rfl rfl (Fw.yV (Fw.val_move rfl)) rfl ?_
    refine Fw.hTk 5 rfl rfl (Fw.yV (Fw.val_nil rfl)) rfl ?_
    refine Fw.hTk 6 rfl rfl (Fw.yV (Fw.val_fieldAddr fl62_3 rfl rfl)) rfl ?_
    refine Fw.hTk 7 rfl rfl (Fw.yV (Fw.hLd sc3 rfl ((HX.low R_HB).cell 5))) rfl ?_
    refine Fw.hAll1 8 (by kernel_rfl) ?_
    refine Fw.hOp 8 rfl ?_
    refine Fw.call cf27 rfl rfl ((show Calls _ _ #[.agg #[.string nm, .int .i64 ver, .slice Ti qs.length cq], .int .i64 (Tk.cur qs l)] _ _ from by
      have h_ := urgency_any _ nm ver Ti qs cq ⟨HT.1.low HB, fun q hq => (HA q hq).1.low HB⟩ hv.2.2.2.2 (fun q hq => (hv.1 q hq).2.1.2) hv (Tk.cur qs l).toNat hc.2
      rw [Int.toNat_of_nonneg hc.1] at h_
      exact h_)) ?_
    rintro e_ w3 ⟨lo, hi, rfl, hur, hb⟩
    refine ⟨_, rfl, ?_⟩
    replace HS := HS.trans (hb.mono HS.size)
    replace HB := HB.trans (hb.mono HB.size)
    clear hb
    refine Fw.hNext HS ?_
    refine Fw.hTk 9 rfl rfl (Fw.yV (Fw.val_extract rfl rfl)) rfl ?_
    refine Fw.hTk 10 rfl rfl (Fw.yV (Fw.val_extract rfl rfl)) rfl ?_
    refine Fw.hTk 11 rfl rfl (Fw.yV (Fw.val_assign rfl)) rfl ?_
    refine Fw.hTk 12 rfl rfl (Fw.yV (Fw.val_assign rfl)) rfl ?_
    refine Fw.hDone (by kernel_rfl) ?_
    refine hK6 _ _ (Fw.FC.sub (f' := [(3, _), (2, _)]) (.cons rfl (.cons rfl .nil)) ?_)
    refine Fw.ret ?_
    refine Fw.ret_ [.tmp 2, .tmp 3] [_, _] Try.results9 (.tmp rfl (.tmp rfl .nil)) ?_
    exact ⟨lo, hi, rfl, .inr ⟨hcu, hur⟩, HB⟩

end Go.Proofs.Ytpoacekefhblhaa
