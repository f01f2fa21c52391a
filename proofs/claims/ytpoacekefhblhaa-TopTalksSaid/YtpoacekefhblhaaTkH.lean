/- TopTalks: package interview: what changes. -/
import Derived.Test.YtpoacekefhblhaaTkG
namespace Go.Proofs.Ytpoacekefhblhaa
set_option linter.unusedSimpArgs false
set_option linter.unusedVariables false
open Go.RowKit

set_option maxRecDepth 100000 in
set_option maxHeartbeats 1000000 in
theorem answer_any (w : World) (B g : Nat) (nm : ByteArray) (ver : Int) (qs : List Tk.Qu) (l : List Nat) (hI : Tk.IvAt w B g nm ver qs l) (hBw : B ≤ w.heap.size) (a : Nat) (x : Tk.An) (hx : Tk.ans qs (Tk.cur qs l) a = some x) (hll : l.length ≤ 60000) : Calls Try.prog 12 #[.pointer (some ⟨g, 0, none⟩), .int .i64 (a : Int)] w fun e_ w' => e_ = .returned (.int .i64 0) ∧ Tk.IvAt w' B g nm ver qs (l ++ [a]) ∧ Below B w w' := by
  obtain ⟨Ti, cq, A2, c2, A3, c3, HX, HT, HA, HN, HK, hdj, hBg⟩ := hI
  have hgl := HX.lt
  refine Fw.calls Try.func12 rfl Try.ntmps12 rfl ?_
  have HB := Below.refl (B) w
  obtain ⟨hc0, hc1, hc2, hc3⟩ := Tk.ans_at hx
  have hla : (l ++ [a]).length = l.length + 1 := by simp
  refine Fw.seq fun _ hK1 => ?_
  refine Fw.region ?_
  refine Fw.s (Fw.val_assign rfl) rfl ?_
  refine Fw.nil ?_
  refine hK1 _ _ ?_
  refine Fw.seq fun _ hK2 => ?_
  refine Fw.seq fun _ hK3 => ?_
  refine Fw.region ?_
  refine Fw.s (Fw.val_move rfl) rfl ?_
  refine Fw.s (Fw.val_nil rfl) rfl ?_
  refine Fw.s (Fw.val_fieldAddr fl62_3 rfl rfl) rfl ?_
  refine Fw.ld sc3 rfl (HX.cell 5) rfl ?_
  refine Fw.s (Fw.Val.F (Fw.val_bin rfl rfl Fw.b_eql) (by omega)) rfl ?_
  refine Fw.nil ?_
  refine hK3 _ _ ?_
  refine Fw.condF rfl ?_
  refine Fw.skip ?_
  refine hK2 _ _ ?_
  refine Fw.seq fun _ hK4 => ?_
  obtain ⟨adq, bq_, oq_, hAq, haddq, HQe⟩ := Fw.rdAt Tk.Qu.len (by decide) HT.1 (Tk.cur qs l).toNat hc1
  refine Fw.regionQ (by kernel_rfl) (by kernel_rfl) ?_
  refine Fw.q (Fw.val_move rfl) rfl ?_
  refine Fw.q (Fw.val_nil rfl) rfl ?_
  refine Fw.q (Fw.val_fieldAddr fl62_0 rfl rfl) rfl ?_
  refine Fw.q (Fw.val_fieldAddr fl24_2 rfl rfl) rfl ?_
  refine Fw.ldQ sc22 rfl (HX.cell 2) rfl ?_
  refine Fw.q (Fw.val_move rfl) rfl ?_
  refine Fw.q (Fw.val_nil rfl) rfl ?_
  refine Fw.q (Fw.val_fieldAddr fl62_3 rfl rfl) rfl ?_
  refine Fw.ldQ sc3 rfl (HX.cell 5) rfl ?_
  refine Fw.q (Fw.val_indexR Try.underlying22 sz30 rfl hAq rfl (by omega) hc1 haddq) rfl ?_
  refine Fw.q (Fw.val_fieldAddr fl30_1 rfl rfl) rfl ?_
  refine Fw.ldQ sc28 rfl (Fw.rdCell HQe 1 rfl) rfl ?_
  refine Fw.q (Fw.val_assign rfl) rfl ?_
  refine Fw.nilQ ?_
  intro w1 hb
  replace HX := HX.low hb
  replace HT := HT.low hb
  replace HA := fun f_ hf_ => (HA f_ hf_).low hb
  replace HN := own_below HN hb (Nat.le_refl _)
  replace HK := own_below HK hb (Nat.le_refl _)
  replace HB := HB.trans (hb.mono (Nat.le_trans hBw HB.size))
  clear hb
  refine hK4 _ _ (Fw.FC.sub (f' := [(5, _), (0, _), (1, _)]) (.cons rfl (.cons rfl (.cons rfl .nil))) ?_)
  refine Fw.seq fun _ hK6 => ?_
  refine Fw.seq fun _ hK7 => ?_
  refine Fw.region ?_
  refine Fw.s (Fw.val_move rfl) rfl ?_
  refine Fw.s (Fw.Val.F (Fw.val_bin rfl rfl Fw.b_lss) (by omega)) rfl ?_
  refine Fw.s (Fw.val_move rfl) rfl ?_
  refine Fw.gT (d := 25) rfl rfl ?_
  refine Fw.s (Fw.val_move rfl) rfl ?_
  refine Fw.gT (d := 25) rfl rfl ?_
  refine Fw.s (Fw.val_move rfl) rfl ?_
  refine Fw.gT (d := 25) rfl rfl ?_
  refine Fw.s (Fw.val_len Try.underlying28 rfl) rfl ?_
  refine Fw.gT (d := 25) rfl rfl ?_
  refine Fw.s (Fw.Val.F (Fw.val_bin rfl rfl Fw.b_geq) (by omega)) rfl ?_
  refine Fw.s (Fw.val_pickF rfl rfl) rfl ?_
  refine Fw.nil ?_
  refine hK7 _ _ (Fw.FC.sub (f' := [(30, _), (5, _), (0, _), (1, _)]) (.cons rfl (.cons rfl (.cons rfl (.cons rfl .nil)))) ?_)
  refine Fw.condF rfl ?_
  refine Fw.skip ?_
  refine hK6 _ _ ?_
  refine Fw.seq fun _ hK8 => ?_
  have hBr : B ≤ w1.heap.size := (Nat.le_trans hBw HB.size)
  refine Fw.regionLS (fun W_ => Below (B) w1 W_ ∧ Blk W_ g 62 #[.string nm, .int .i64 ver, .slice Ti qs.length cq, .slice A2 l.length c2, .slice A3 l.length c3, .int .i64 (Tk.cur qs l)]) 13 (by kernel_rfl) ⟨(Fw.drew_low w1).mono hBr, HX.low (Fw.drew_low w1)⟩ ?_
  have R_HX := HX
  have R_HB := HB
  intro w2 hb HS
  replace HS := HS.1
  replace HX := HX.low hb
  replace HT := HT.low hb
  replace HA := fun f_ hf_ => (HA f_ hf_).low hb
  replace HN := own_below HN hb (Nat.le_refl _)
  replace HK := own_below HK hb (Nat.le_refl _)
  replace HB := HB.trans (hb.mono (Nat.le_trans hBw HB.size))
  clear hb
  refine Fw.lTk 0 rfl rfl (Fw.yV (Fw.val_move rfl)) rfl ?_
  refine Fw.lTk 1 rfl rfl (Fw.yV (Fw.val_move rfl)) rfl ?_
  refine Fw.lTk 2 rfl rfl (Fw.yV (Fw.val_nil rfl)) rfl ?_
  refine Fw.lTk 3 rfl rfl (Fw.yV (Fw.val_fieldAddr fl62_2 rfl rfl)) rfl ?_
  refine Fw.lTk 4 rfl rfl (Fw.yV (Fw.val_load sc42 rfl (fun _ h_ => h_.2.cell 4))) rfl ?_
  refine Fw.lTk 5 rfl rfl (Fw.yV (Fw.val_move rfl)) rfl ?_
  refine Fw.lTk 6 rfl rfl (Fw.yV (Fw.val_nil rfl)) rfl ?_
  refine Fw.lTk 7 rfl rfl (Fw.yV (Fw.val_fieldAddr fl62_3 rfl rfl)) rfl ?_
  refine Fw.lTk 8 rfl rfl (Fw.yV (Fw.val_load sc3 rfl (fun _ h_ => h_.2.cell 5))) rfl ?_
  refine Fw.lOp 9 rfl (by kernel_rfl) ?_
  refine Fw.buildSlice [_] sl42 rfl rfl (by exact Fw.allSz rfl) (by decide) rfl ?_
  intro w3 gS40 egS40 HS40 hb
  have rgS40 : w1.heap.size ≤ gS40 := by have := HS.size; omega
  have n_g_gS40 : g < gS40 := by have := HX.lt; omega
  have lgS40 : B ≤ gS40 := by have := (Nat.le_trans hBw HB.size); omega
  replace HX := HX.low hb
  replace HT := HT.low hb
  replace HA := fun f_ hf_ => (HA f_ hf_).low hb
  replace HN := own_below HN hb (Nat.le_refl _)
  replace HK := own_below HK hb (Nat.le_refl _)
  replace HS := HS.trans (hb.mono (Nat.le_trans hBr HS.size))
  replace HB := HB.trans (hb.mono (Nat.le_trans hBw HB.size))
  clear hb
  clear egS40
  refine Fw.lNext ⟨HS, HX⟩ ?_
  refine Fw.lOp 10 rfl (by kernel_rfl) ?_
  refine Fw.append ((l ++ [a]).length) ((Tk.askd qs (l ++ [a])).map (Value.int .i64)) sl42 rfl rfl HK (show Rd _ _ [Value.int .i64 (Tk.cur qs l)] from Fw.rdBlk HS40) rfl (Fw.oneCellsL rfl) (by unfold maxLen; omega) (Nat.le_trans hBw HB.size) (by simp) (by rw [Tk.askd_app]; simp) rfl ?_
  intro A41 c41 w4 N_ hbb hc hrow
  replace HS := HS.trans hbb
  replace HB := HB.trans hbb
  replace HX := HX.chg hc (fun e => own_ne_blk HK HX (by decide) e.symm)
  replace HT := Fw.RdT.chgA HT HK (by decide) hc
  replace HA := fun q_ hq_ => Fw.RdT.chgA (HA q_ hq_) HK (by decide) hc
  have hdj_41 := Tk.dj_app HN hdj hrow
  replace HN := Tk.own_dj HN hdj hc
  clear hbb hc hrow HK HS40
  have HK := N_
  clear N_
  refine Fw.lNext ⟨HS, HX⟩ ?_
  refine Fw.lTk 11 rfl rfl (Fw.yV (Fw.val_nil rfl)) rfl ?_
  refine Fw.lTk 12 rfl rfl (Fw.yV (Fw.val_fieldAddr fl62_2 rfl rfl)) rfl ?_
  refine Fw.lLast rfl (by kernel_rfl) (by kernel_rfl) ?_
  refine Fw.store sz42 rfl rfl HX rfl rfl rfl ?_
  intro w5 N_ hc
  replace HT := (HT).chg hc (Fw.RdT.ne_ HT HX (by decide))
  replace HA := fun f_ hf_ => ((HA f_ hf_)).chg hc (Fw.RdT.ne_ (HA f_ hf_) HX (by decide))
  replace HN := own_to HN hc (fun g_ h_ e_ => own_ne HN HX (by decide) (by rw [h_, e_]))
  replace HK := own_to HK hc (fun g_ h_ e_ => own_ne HK HX (by decide) (by rw [h_, e_]))
  replace HB := HB.trans (hc.below (B := B) (fun k e => by omega) (Nat.le_trans hBw HB.size))
  clear hc
  clear HX
  have HX := N_
  clear N_
  replace HX : Blk w5 g 62 #[.string nm, .int .i64 ver, .slice Ti qs.length cq, .slice A2 l.length c2, .slice A41 (l ++ [a]).length c41, .int .i64 (Tk.cur qs l)] := HX
  refine Fw.nil ?_
  refine hK8 _ _ (Fw.FC.sub (f' := [(5, _), (0, _), (1, _)]) (.cons rfl (.cons rfl (.cons rfl .nil))) ?_)
  refine Fw.seq fun _ hK9 => ?_
  refine Fw.region ?_
  refine Fw.s (Fw.val_move rfl) rfl ?_
  refine Fw.s (Fw.val_move rfl) rfl ?_
  refine Fw.s (Fw.val_nil rfl) rfl ?_
  refine Fw.s (Fw.val_fieldAddr fl62_1 rfl rfl) rfl ?_
  refine Fw.ld sc42 rfl (HX.cell 3) rfl ?_
  refine Fw.s (Fw.val_move rfl) rfl ?_
  refine Fw.buildSlice [_] sl42 rfl rfl (by exact Fw.allSz rfl) (by decide) rfl ?_
  intro w6 gS50 egS50 HS50 hb
  have n_g_gS50 : g < gS50 := by have := HX.lt; omega
  have lgS50 : B ≤ gS50 := by have := (Nat.le_trans hBw HB.size); omega
  replace HX := HX.low hb
  replace HT := HT.low hb
  replace HA := fun f_ hf_ => (HA f_ hf_).low hb
  replace HN := own_below HN hb (Nat.le_refl _)
  replace HK := own_below HK hb (Nat.le_refl _)
  replace HB := HB.trans (hb.mono (Nat.le_trans hBw HB.size))
  clear hb
  clear egS50
  refine Fw.append ((l ++ [a]).length) (Tk.nats (l ++ [a])) sl42 rfl rfl HN (show Rd _ _ [Value.int .i64 (a : Int)] from Fw.rdBlk HS50) rfl (Fw.oneCellsL rfl) (by unfold maxLen; omega) (Nat.le_trans hBw HB.size) (by simp) (by simp [Tk.nats]) rfl ?_
  intro A51 c51 w7 N_ hbb hc hrow
  replace HB := HB.trans hbb
  replace HX := HX.chg hc (fun e => own_ne_blk HN HX (by decide) e.symm)
  replace HT := Fw.RdT.chgA HT HN (by decide) hc
  replace HA := fun q_ hq_ => Fw.RdT.chgA (HA q_ hq_) HN (by decide) hc
  have hdj_51 := Tk.dj_app HK (Tk.dj_flip hdj_41) hrow
  replace HK := Tk.own_dj HK (Tk.dj_flip hdj_41) hc
  clear hbb hc hrow HN HS50
  have HN := N_
  clear N_
  refine Fw.s (Fw.val_nil rfl) rfl ?_
  refine Fw.s (Fw.val_fieldAddr fl62_1 rfl rfl) rfl ?_
  refine Fw.store sz42 rfl rfl HX rfl rfl rfl ?_
  intro w8 N_ hc
  replace HT := (HT).chg hc (Fw.RdT.ne_ HT HX (by decide))
  replace HA := fun f_ hf_ => ((HA f_ hf_)).chg hc (Fw.RdT.ne_ (HA f_ hf_) HX (by decide))
  replace HN := own_to HN hc (fun g_ h_ e_ => own_ne HN HX (by decide) (by rw [h_, e_]))
  replace HK := own_to HK hc (fun g_ h_ e_ => own_ne HK HX (by decide) (by rw [h_, e_]))
  replace HB := HB.trans (hc.below (B := B) (fun k e => by omega) (Nat.le_trans hBw HB.size))
  clear hc
  clear HX
  have HX := N_
  clear N_
  replace HX : Blk w8 g 62 #[.string nm, .int .i64 ver, .slice Ti qs.length cq, .slice A51 (l ++ [a]).length c51, .slice A41 (l ++ [a]).length c41, .int .i64 (Tk.cur qs l)] := HX
  refine Fw.nil ?_
  refine hK9 _ _ (Fw.FC.sub (f' := [(5, _), (0, _), (1, _)]) (.cons rfl (.cons rfl (.cons rfl .nil))) ?_)
  refine Fw.seq fun _ hK10 => ?_
  obtain ⟨ada, ba_, oa_, hAa, hadda, HAe⟩ := Fw.rdAt Tk.An.len (by decide) (HA _ (List.getElem_mem hc1)).1 a hc2
  refine Fw.region ?_
  refine Fw.s (Fw.val_move rfl) rfl ?_
  refine Fw.s (Fw.val_move rfl) rfl ?_
  refine Fw.s (Fw.val_move rfl) rfl ?_
  refine Fw.s (Fw.val_indexR Try.underlying28 sz68 rfl hAa rfl rfl hc2 hadda) rfl ?_
  refine Fw.s (Fw.val_fieldAddr fl68_1 rfl rfl) rfl ?_
  refine Fw.ld sc3 rfl (Fw.rdCell HAe 1 rfl) rfl ?_
  refine Fw.s (Fw.val_nil rfl) rfl ?_
  refine Fw.s (Fw.val_fieldAddr fl62_3 rfl rfl) rfl ?_
  refine Fw.store sz3 rfl rfl HX rfl rfl rfl ?_
  intro w9 N_ hc
  replace HT := (HT).chg hc (Fw.RdT.ne_ HT HX (by decide))
  replace HA := fun f_ hf_ => ((HA f_ hf_)).chg hc (Fw.RdT.ne_ (HA f_ hf_) HX (by decide))
  replace HN := own_to HN hc (fun g_ h_ e_ => own_ne HN HX (by decide) (by rw [h_, e_]))
  replace HK := own_to HK hc (fun g_ h_ e_ => own_ne HK HX (by decide) (by rw [h_, e_]))
  replace HB := HB.trans (hc.below (B := B) (fun k e => by omega) (Nat.le_trans hBw HB.size))
  clear hc
  clear HX
  have HX := N_
  clear N_
  replace HX : Blk w9 g 62 #[.string nm, .int .i64 ver, .slice Ti qs.length cq, .slice A51 (l ++ [a]).length c51, .slice A41 (l ++ [a]).length c41, .int .i64 qs[(Tk.cur qs l).toNat].an[a].next] := HX
  refine Fw.nil ?_
  refine hK10 _ _ (Fw.FC.sub (f' := []) .nil ?_)
  refine Fw.seq fun _ hK12 => ?_
  refine Fw.region ?_
  refine Fw.s (Fw.val_assign rfl) rfl ?_
  refine Fw.nil ?_
  refine hK12 _ _ ?_
  refine Fw.ret ?_
  refine Fw.ret_ [.tmp 4] [_] Try.results12 (.tmp rfl .nil) ?_
  have e : Tk.cur qs (l ++ [a]) = qs[(Tk.cur qs l).toNat].an[a].next := by
    rw [Tk.cur_app]; unfold Tk.stp; rw [hx]; exact congrArg Tk.An.next hc3.symm
  rw [← e] at HX
  exact ⟨rfl, ⟨Ti, cq, A51, c51, A41, c41, HX, HT, HA, HN, HK, Tk.dj_flip hdj_51, hBg⟩, HB⟩

set_option maxRecDepth 100000 in
set_option maxHeartbeats 1000000 in
theorem undo_any (w : World) (B g : Nat) (nm : ByteArray) (ver : Int) (qs : List Tk.Qu) (l : List Nat) (a : Nat) (hI : Tk.IvAt w B g nm ver qs (l ++ [a])) (hBw : B ≤ w.heap.size) (hll : l.length ≤ 60000) : Calls Try.prog 13 #[.pointer (some ⟨g, 0, none⟩)] w fun e_ w' => e_ = .returned (.int .i64 0) ∧ Tk.IvAt w' B g nm ver qs l ∧ Below B w w' := by
  obtain ⟨Ti, cq, A2, c2, A3, c3, HX, HT, HA, HN, HK, hdj, hBg⟩ := hI
  have hgl := HX.lt
  have hla : (l ++ [a]).length = l.length + 1 := by simp
  refine Fw.calls Try.func13 rfl Try.ntmps13 rfl ?_
  have HB := Below.refl (B) w
  refine Fw.seq fun _ hK1 => ?_
  refine Fw.region ?_
  refine Fw.s (Fw.val_assign rfl) rfl ?_
  refine Fw.nil ?_
  refine hK1 _ _ ?_
  refine Fw.seq fun _ hK2 => ?_
  refine Fw.region ?_
  refine Fw.s (Fw.val_move rfl) rfl ?_
  refine Fw.s (Fw.val_nil rfl) rfl ?_
  refine Fw.s (Fw.val_fieldAddr fl62_1 rfl rfl) rfl ?_
  refine Fw.ld sc42 rfl (HX.cell 3) rfl ?_
  refine Fw.s (Fw.val_len Try.underlying42 rfl) rfl ?_
  refine Fw.s (Fw.val_bin rfl rfl (Fw.b_sub (Fw.i64_ok (by omega)))) rfl ?_
  refine Fw.s (Fw.val_assign rfl) rfl ?_
  refine Fw.nil ?_
  refine hK2 _ _ (Fw.FC.sub (f' := [(3, _), (0, _)]) (.cons rfl (.cons rfl .nil)) ?_)
  refine Fw.seq fun _ hK3 => ?_
  refine Fw.seq fun _ hK4 => ?_
  refine Fw.region ?_
  refine Fw.s (Fw.val_move rfl) rfl ?_
  refine Fw.s (Fw.Val.F (Fw.val_bin rfl rfl Fw.b_lss) (by omega)) rfl ?_
  refine Fw.nil ?_
  refine hK4 _ _ ?_
  refine Fw.condF rfl ?_
  refine Fw.skip ?_
  refine hK3 _ _ ?_
  refine Fw.seq fun _ hK5 => ?_
  have HKr := Rd.of_own HK
  rw [Tk.askd_app] at HKr
  have hkl : l.length < (Tk.askd qs l ++ [Tk.cur qs l]).length := by rw [List.length_append, Tk.askd_len]; simp
  obtain ⟨adk, bk_, ok_, hAk, haddk, HKe⟩ := Fw.rdAtM HKr l.length hkl
  rw [List.getElem_append_right (by rw [Tk.askd_len]; omega)] at HKe
  simp only [Tk.askd_len, Nat.sub_self, List.getElem_cons_zero] at HKe
  have hle2 := Tk.own_lec HN
  have hle3 := Tk.own_lec HK
  refine Fw.region ?_
  refine Fw.s (Fw.val_move rfl) rfl ?_
  refine Fw.s (Fw.val_move rfl) rfl ?_
  refine Fw.s (Fw.val_nil rfl) rfl ?_
  refine Fw.s (Fw.val_fieldAddr fl62_2 rfl rfl) rfl ?_
  refine Fw.ld sc42 rfl (HX.cell 4) rfl ?_
  refine Fw.s (Fw.val_move rfl) rfl ?_
  refine Fw.s (Fw.val_indexR Try.underlying42 sz3 rfl hAk rfl (by omega) (by omega) haddk) rfl ?_
  refine Fw.ld sc3 rfl (HKe) rfl ?_
  refine Fw.s (Fw.val_nil rfl) rfl ?_
  refine Fw.s (Fw.val_fieldAddr fl62_3 rfl rfl) rfl ?_
  refine Fw.store sz3 rfl rfl HX rfl rfl rfl ?_
  intro w1 N_ hc
  replace HT := (HT).chg hc (Fw.RdT.ne_ HT HX (by decide))
  replace HA := fun f_ hf_ => ((HA f_ hf_)).chg hc (Fw.RdT.ne_ (HA f_ hf_) HX (by decide))
  replace HN := own_to HN hc (fun g_ h_ e_ => own_ne HN HX (by decide) (by rw [h_, e_]))
  replace HK := own_to HK hc (fun g_ h_ e_ => own_ne HK HX (by decide) (by rw [h_, e_]))
  replace HB := HB.trans (hc.below (B := B) (fun k e => by omega) (Nat.le_trans hBw HB.size))
  clear hc
  clear HX
  have HX := N_
  clear N_
  replace HX : Blk w1 g 62 #[.string nm, .int .i64 ver, .slice Ti qs.length cq, .slice A2 (l ++ [a]).length c2, .slice A3 (l ++ [a]).length c3, .int .i64 (Tk.cur qs l)] := HX
  refine Fw.nil ?_
  refine hK5 _ _ (Fw.FC.sub (f' := [(3, _), (0, _)]) (.cons rfl (.cons rfl .nil)) ?_)
  refine Fw.seq fun _ hK7 => ?_
  refine Fw.region ?_
  refine Fw.s (Fw.val_move rfl) rfl ?_
  refine Fw.s (Fw.val_move rfl) rfl ?_
  refine Fw.s (Fw.val_nil rfl) rfl ?_
  refine Fw.s (Fw.val_fieldAddr fl62_2 rfl rfl) rfl ?_
  refine Fw.ld sc42 rfl (HX.cell 4) rfl ?_
  refine Fw.s (Fw.val_move rfl) rfl ?_
  refine Fw.s (Fw.val_sliceTo (m := l.length) Try.underlying42 sz3 rfl rfl (by omega) (by omega)) rfl ?_
  refine Fw.s (Fw.val_nil rfl) rfl ?_
  refine Fw.s (Fw.val_fieldAddr fl62_2 rfl rfl) rfl ?_
  refine Fw.store sz42 rfl rfl HX rfl rfl rfl ?_
  intro w2 N_ hc
  replace HT := (HT).chg hc (Fw.RdT.ne_ HT HX (by decide))
  replace HA := fun f_ hf_ => ((HA f_ hf_)).chg hc (Fw.RdT.ne_ (HA f_ hf_) HX (by decide))
  replace HN := own_to HN hc (fun g_ h_ e_ => own_ne HN HX (by decide) (by rw [h_, e_]))
  replace HK := own_to HK hc (fun g_ h_ e_ => own_ne HK HX (by decide) (by rw [h_, e_]))
  replace HB := HB.trans (hc.below (B := B) (fun k e => by omega) (Nat.le_trans hBw HB.size))
  clear hc
  clear HX
  have HX := N_
  clear N_
  replace HX : Blk w2 g 62 #[.string nm, .int .i64 ver, .slice Ti qs.length cq, .slice A2 (l ++ [a]).length c2, .slice A3 l.length c3, .int .i64 (Tk.cur qs l)] := HX
  refine Fw.nil ?_
  refine hK7 _ _ (Fw.FC.sub (f' := [(3, _), (0, _)]) (.cons rfl (.cons rfl .nil)) ?_)
  refine Fw.seq fun _ hK8 => ?_
  refine Fw.region ?_
  refine Fw.s (Fw.val_move rfl) rfl ?_
  refine Fw.s (Fw.val_move rfl) rfl ?_
  refine Fw.s (Fw.val_nil rfl) rfl ?_
  refine Fw.s (Fw.val_fieldAddr fl62_1 rfl rfl) rfl ?_
  refine Fw.ld sc42 rfl (HX.cell 3) rfl ?_
  refine Fw.s (Fw.val_move rfl) rfl ?_
  refine Fw.s (Fw.val_sliceTo (m := l.length) Try.underlying42 sz3 rfl rfl (by omega) (by omega)) rfl ?_
  refine Fw.s (Fw.val_nil rfl) rfl ?_
  refine Fw.s (Fw.val_fieldAddr fl62_1 rfl rfl) rfl ?_
  refine Fw.store sz42 rfl rfl HX rfl rfl rfl ?_
  intro w3 N_ hc
  replace HT := (HT).chg hc (Fw.RdT.ne_ HT HX (by decide))
  replace HA := fun f_ hf_ => ((HA f_ hf_)).chg hc (Fw.RdT.ne_ (HA f_ hf_) HX (by decide))
  replace HN := own_to HN hc (fun g_ h_ e_ => own_ne HN HX (by decide) (by rw [h_, e_]))
  replace HK := own_to HK hc (fun g_ h_ e_ => own_ne HK HX (by decide) (by rw [h_, e_]))
  replace HB := HB.trans (hc.below (B := B) (fun k e => by omega) (Nat.le_trans hBw HB.size))
  clear hc
  clear HX
  have HX := N_
  clear N_
  replace HX : Blk w3 g 62 #[.string nm, .int .i64 ver, .slice Ti qs.length cq, .slice A2 l.length c2, .slice A3 l.length c3, .int .i64 (Tk.cur qs l)] := HX
  refine Fw.nil ?_
  refine hK8 _ _ (Fw.FC.sub (f' := []) .nil ?_)
  refine Fw.seq fun _ hK9 => ?_
  refine Fw.region ?_
  refine Fw.s (Fw.val_assign rfl) rfl ?_
  refine Fw.nil ?_
  refine hK9 _ _ ?_
  refine Fw.ret ?_
  refine Fw.ret_ [.tmp 2] [_] Try.results13 (.tmp rfl .nil) ?_
  have k2 := own_take HN l.length (by omega)
  have k3 := own_take HK l.length (by omega)
  have e2 : (Tk.nats (l ++ [a])).take (l.length * 1) = Tk.nats l := by unfold Tk.nats; rw [Nat.mul_one, ← List.map_take, List.take_left]
  have e3 : ((Tk.askd qs (l ++ [a])).map (Value.int .i64)).take (l.length * 1) = (Tk.askd qs l).map (Value.int .i64) := by rw [Nat.mul_one, ← List.map_take, Tk.askd_app, List.take_left' (Tk.askd_len qs l)]
  rw [e2] at k2
  rw [e3] at k3
  exact ⟨rfl, ⟨Ti, cq, A2, c2, A3, c3, HX, HT, HA, k2, k3, hdj, hBg⟩, HB⟩

end Go.Proofs.Ytpoacekefhblhaa
