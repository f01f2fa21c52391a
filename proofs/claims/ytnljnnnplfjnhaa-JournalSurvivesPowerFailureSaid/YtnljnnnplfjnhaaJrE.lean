/- Layer 20: the reference's encoding. -/
import Derived.Test.YtnljnnnplfjnhaaJrD
namespace Go.Proofs.Ytnljnnnplfjnhaa
set_option linter.unusedSimpArgs false
set_option linter.unusedVariables false
open Go.RowKit

set_option maxRecDepth 100000 in
set_option maxHeartbeats 1000000 in
theorem jone_any (w : World) (s k : Int) (A : Option Addr) (b : List Int) (c : Nat) (h : Rd w A (b.map (.int .u8))) (hl : b.length ≤ 100000) (hs : Ck.U64 s) (hk : 0 ≤ k ∧ k < 256) (hb : Ck.Bts b) : Calls Try.prog 26 #[.int .u64 s, .agg #[.int .u8 k, .slice A b.length c]] w fun e_ w' => ∃ A' c', e_ = .returned (.slice A' (Jr.one s ⟨k, b⟩).length c') ∧ w'.ownsRow w.heap.size 5 1 (.slice A' (Jr.one s ⟨k, b⟩).length c') (Jr.one s ⟨k, b⟩).length ((Jr.one s ⟨k, b⟩).map (.int .u8)) ∧ Below w.heap.size w w' := by
  have hen : (Wr.enc (b.length : Nat)).length ≤ 10 := Wr.enc_len (by unfold Wr.I64; omega)
  have hI : Wr.I64 (b.length : Nat) := by unfold Wr.I64; omega
  refine Fw.calls Try.func26 rfl Try.ntmps26 rfl ?_
  have HB := Below.refl (w.heap.size) w
  refine Fw.seq fun _ hK1 => ?_
  refine Fw.region ?_
  refine Fw.box rfl rfl ?_
  intro w1 gXv egXv HXv hb
  have lgXv : w.heap.size ≤ gXv := by have := HB.size; omega
  replace HB := HB.trans (hb.mono HB.size)
  clear hb
  clear egXv
  refine Fw.s (Fw.val_assign rfl) rfl ?_
  refine Fw.nil ?_
  refine hK1 _ _ ?_
  refine Fw.seq fun _ hK2 => ?_
  have hBr : w.heap.size ≤ w1.heap.size := HB.size
  refine Fw.regionHS (fun W_ => Below (w.heap.size) w1 W_ ∧ Blk W_ gXv 28 #[.int .u8 k, .slice A b.length c]) (by kernel_rfl) ⟨(Fw.drew_low w1).mono hBr, HXv.low (Fw.drew_low w1)⟩ ?_
  have R_HXv := HXv
  have R_HB := HB
  intro w2 hb HS
  replace HS := HS.1
  replace HXv := HXv.low hb
  replace HB := HB.trans (hb.mono HB.size)
  clear hb
  refine Fw.hTake 0 rfl rfl (by kernel_rfl) (by kernel_rfl) (by kernel_rfl) (Fw.yV (Fw.val_fieldAddr fl28_1 rfl rfl)) rfl ?_
  refine Fw.hTake 1 rfl rfl (by kernel_rfl) (by kernel_rfl) (by kernel_rfl) (Fw.yV (Fw.val_load sc26 rfl (fun _ h_ => h_.2.cell 1))) rfl ?_
  refine Fw.hTake 2 rfl rfl (by kernel_rfl) (by kernel_rfl) (by kernel_rfl) (Fw.yV (Fw.val_len Try.underlying26 rfl)) rfl ?_
  refine Fw.hTake 4 rfl rfl (by kernel_rfl) (by kernel_rfl) (by kernel_rfl) (Fw.yV (Fw.val_fieldAddr fl28_0 rfl rfl)) rfl ?_
  refine Fw.hTake 5 rfl rfl (by kernel_rfl) (by kernel_rfl) (by kernel_rfl) (Fw.yV (Fw.val_load sc5 rfl (fun _ h_ => h_.2.cell 0))) rfl ?_
  refine Fw.hAll2 3 6 (by kernel_rfl) ?_ ?_
  · skip
    refine Fw.hOp 3 rfl ?_
    refine Fw.call cf41 rfl rfl (refInt_any _ (b.length : Nat) hI) ?_
    rintro e_ w3 ⟨A9, c9, rfl, HI, hb_⟩
    refine ⟨_, rfl, ?_⟩
    have HO := own_base HI (show w.heap.size ≤ _ from HB.size)
    clear HI
    replace HXv := HXv.low hb_
    replace HS := HS.trans (hb_.mono (Nat.le_trans hBr HS.size))
    replace HB := HB.trans (hb_.mono HB.size)
    clear hb_
    refine Fw.hNext ⟨HS, HXv⟩ ?_
    refine Fw.hAll1 6 (by kernel_rfl) ?_
    refine Fw.hOp 6 rfl ?_
    refine Fw.buildSlice [_] sl26 rfl rfl (by exact Fw.allSz rfl) (by decide) rfl ?_
    intro w4 gS12 egS12 HS12 hb
    have rgS12 : w1.heap.size ≤ gS12 := by have := HS.size; omega
    have n_gXv_gS12 : gXv < gS12 := by have := HXv.lt; omega
    have lgS12 : w.heap.size ≤ gS12 := by have := HB.size; omega
    replace HXv := HXv.low hb
    replace HS := HS.trans (hb.mono (Nat.le_trans hBr HS.size))
    replace HO := own_below HO hb (Nat.le_refl _)
    replace HB := HB.trans (hb.mono HB.size)
    clear hb
    clear egS12
    refine Fw.hNext ⟨HS, HXv⟩ ?_
    refine Fw.hAll1 7 (by kernel_rfl) ?_
    refine Fw.hOp 7 rfl ?_
    refine Fw.append (base := w.heap.size) (((Wr.enc (b.length : Nat)) ++ [k])).length ((((Wr.enc (b.length : Nat)) ++ [k])).map (.int .u8)) slU8 rfl rfl HO (Fw.rdBlk HS12) rfl (Fw.oneCellsL rfl) (by unfold maxLen; (try simp only [List.length_append, List.length_cons, List.length_nil, Ck.bytesI_length]); omega) HB.size (by (try simp only [List.length_append, List.length_cons, List.length_nil, Ck.bytesI_length]); (try omega)) (by rw [List.map_append (l₁ := (Wr.enc (b.length : Nat)))]; (try rfl)) rfl ?_
    intro A13 c13 w5 N_ hbb hc _
    replace HXv := HXv.chg hc (fun e => own_ne_blk HO HXv (by decide) e.symm)
    replace HB := HB.trans hbb
    replace HS := HS.trans hbb
    clear hbb hc HO
    have HO := N_
    clear N_
    refine Fw.hNext ⟨HS, HXv⟩ ?_
    refine Fw.hTake 8 rfl rfl (by kernel_rfl) (by kernel_rfl) (by kernel_rfl) (Fw.yV (Fw.val_assign rfl)) rfl ?_
    refine Fw.hDone (by kernel_rfl) ?_
    refine hK2 _ _ (Fw.FC.sub (f' := [(5, _), (3, _), (0, _)]) (.cons rfl (.cons rfl (.cons rfl .nil))) ?_)
    refine Fw.seq fun _ hK3 => ?_
    refine Fw.region ?_
    refine Fw.s (Fw.val_move rfl) rfl ?_
    refine Fw.s (Fw.val_fieldAddr fl28_1 rfl rfl) rfl ?_
    refine Fw.ld sc26 rfl (HXv.cell 1) rfl ?_
    refine Fw.append (base := w.heap.size) ((((Wr.enc (b.length : Nat)) ++ [k]) ++ b)).length (((((Wr.enc (b.length : Nat)) ++ [k]) ++ b)).map (.int .u8)) slU8 rfl rfl HO (h.low HB) (by simp) oneCell_ints (by unfold maxLen; (try simp only [List.length_append, List.length_cons, List.length_nil, Ck.bytesI_length]); omega) HB.size (by (try simp only [List.length_append, List.length_cons, List.length_nil, Ck.bytesI_length]); (try omega)) (by rw [List.map_append (l₁ := ((Wr.enc (b.length : Nat)) ++ [k]))]; (try rfl)) rfl ?_
    intro A17 c17 w6 N_ hbb hc _
    replace HXv := HXv.chg hc (fun e => own_ne_blk HO HXv (by decide) e.symm)
    replace HB := HB.trans hbb
    clear hbb hc HO
    have HO := N_
    clear N_
    refine Fw.s (Fw.val_assign rfl) rfl ?_
    refine Fw.nil ?_
    refine hK3 _ _ ?_
    refine Fw.seq fun _ hK4 => ?_
    refine Fw.region ?_
    refine Fw.s (Fw.val_move rfl) rfl ?_
    refine Fw.s (Fw.val_move rfl) rfl ?_
    refine Fw.s (Fw.val_fieldAddr fl28_0 rfl rfl) rfl ?_
    refine Fw.ld sc5 rfl (HXv.cell 0) rfl ?_
    refine Fw.s (Fw.val_fieldAddr fl28_1 rfl rfl) rfl ?_
    refine Fw.ld sc26 rfl (HXv.cell 1) rfl ?_
    refine Fw.call cf36 rfl rfl (link_any s k A b c _ (h.low HB) hl hs hk hb) ?_
    rintro e_ w7 ⟨rfl, hb_⟩
    refine ⟨_, rfl, ?_⟩
    replace HXv := HXv.low hb_
    replace HO := own_below HO hb_ (Nat.le_refl _)
    replace HB := HB.trans (hb_.mono HB.size)
    clear hb_
    refine Fw.call cf42 rfl rfl (bytes_any (Jr.next s ⟨k, b⟩) _ (Jr.recI_U64 _ _ _)) ?_
    rintro e_ w8 ⟨A25, c25, rfl, HQ, hb_⟩
    refine ⟨_, rfl, ?_⟩
    replace HXv := HXv.low hb_
    replace HO := own_below HO hb_ (Nat.le_refl _)
    replace HB := HB.trans (hb_.mono HB.size)
    clear hb_
    refine Fw.append (base := w.heap.size) (((((Wr.enc (b.length : Nat)) ++ [k]) ++ b) ++ Ck.bytesI (Jr.next s ⟨k, b⟩))).length ((((((Wr.enc (b.length : Nat)) ++ [k]) ++ b) ++ Ck.bytesI (Jr.next s ⟨k, b⟩))).map (.int .u8)) slU8 rfl rfl HO (Rd.of_own HQ) (by simp [Ck.bytesI_length]) oneCell_ints (by unfold maxLen; (try simp only [List.length_append, List.length_cons, List.length_nil, Ck.bytesI_length]); omega) HB.size (by (try simp only [List.length_append, List.length_cons, List.length_nil, Ck.bytesI_length]); (try omega)) (by rw [List.map_append (l₁ := (((Wr.enc (b.length : Nat)) ++ [k]) ++ b))]; (try rfl)) rfl ?_
    intro A26 c26 w9 N_ hbb hc _
    replace HXv := HXv.chg hc (fun e => own_ne_blk HO HXv (by decide) e.symm)
    replace HB := HB.trans hbb
    clear hbb hc HO
    have HO := N_
    clear N_
    refine Fw.s (Fw.val_assign rfl) rfl ?_
    refine Fw.nil ?_
    refine hK4 _ _ (Fw.FC.sub (f' := [(4, _)]) (.cons rfl .nil) ?_)
    refine Fw.ret ?_
    refine Fw.ret_ [.tmp 4] [_] Try.results26 (.tmp rfl .nil) ?_
    rw [show ((((Wr.enc (b.length : Nat)) ++ [k]) ++ b) ++ Ck.bytesI (Jr.next s ⟨k, b⟩)) = Jr.one s ⟨k, b⟩ by unfold Jr.one; simp] at HO ⊢
    exact ⟨_, _, rfl, HO, HB⟩
  · skip
    refine Fw.hOp 6 rfl ?_
    refine Fw.buildSlice [_] sl26 rfl rfl (by exact Fw.allSz rfl) (by decide) rfl ?_
    intro w10 gS12 egS12 HS12 hb
    have rgS12 : w1.heap.size ≤ gS12 := by have := HS.size; omega
    have n_gXv_gS12 : gXv < gS12 := by have := HXv.lt; omega
    have lgS12 : w.heap.size ≤ gS12 := by have := HB.size; omega
    replace HXv := HXv.low hb
    replace HS := HS.trans (hb.mono (Nat.le_trans hBr HS.size))
    replace HB := HB.trans (hb.mono HB.size)
    clear hb
    clear egS12
    refine Fw.hNext ⟨HS, HXv⟩ ?_
    refine Fw.hAll1 3 (by kernel_rfl) ?_
    refine Fw.hOp 3 rfl ?_
    refine Fw.call cf41 rfl rfl (refInt_any _ (b.length : Nat) hI) ?_
    rintro e_ w11 ⟨A9, c9, rfl, HI, hb_⟩
    refine ⟨_, rfl, ?_⟩
    have HO := own_base HI (show w.heap.size ≤ _ from HB.size)
    clear HI
    replace HXv := HXv.low hb_
    replace HS := HS.trans (hb_.mono (Nat.le_trans hBr HS.size))
    replace HS12 := HS12.low hb_
    replace HB := HB.trans (hb_.mono HB.size)
    clear hb_
    refine Fw.hNext ⟨HS, HXv⟩ ?_
    refine Fw.hAll1 7 (by kernel_rfl) ?_
    refine Fw.hOp 7 rfl ?_
    refine Fw.append (base := w.heap.size) (((Wr.enc (b.length : Nat)) ++ [k])).length ((((Wr.enc (b.length : Nat)) ++ [k])).map (.int .u8)) slU8 rfl rfl HO (Fw.rdBlk HS12) rfl (Fw.oneCellsL rfl) (by unfold maxLen; (try simp only [List.length_append, List.length_cons, List.length_nil, Ck.bytesI_length]); omega) HB.size (by (try simp only [List.length_append, List.length_cons, List.length_nil, Ck.bytesI_length]); (try omega)) (by rw [List.map_append (l₁ := (Wr.enc (b.length : Nat)))]; (try rfl)) rfl ?_
    intro A13 c13 w12 N_ hbb hc _
    replace HXv := HXv.chg hc (fun e => own_ne_blk HO HXv (by decide) e.symm)
    replace HB := HB.trans hbb
    replace HS := HS.trans hbb
    clear hbb hc HO
    have HO := N_
    clear N_
    refine Fw.hNext ⟨HS, HXv⟩ ?_
    refine Fw.hTake 8 rfl rfl (by kernel_rfl) (by kernel_rfl) (by kernel_rfl) (Fw.yV (Fw.val_assign rfl)) rfl ?_
    refine Fw.hDone (by kernel_rfl) ?_
    refine hK2 _ _ (Fw.FC.sub (f' := [(5, _), (3, _), (0, _)]) (.cons rfl (.cons rfl (.cons rfl .nil))) ?_)
    refine Fw.seq fun _ hK5 => ?_
    refine Fw.region ?_
    refine Fw.s (Fw.val_move rfl) rfl ?_
    refine Fw.s (Fw.val_fieldAddr fl28_1 rfl rfl) rfl ?_
    refine Fw.ld sc26 rfl (HXv.cell 1) rfl ?_
    refine Fw.append (base := w.heap.size) ((((Wr.enc (b.length : Nat)) ++ [k]) ++ b)).length (((((Wr.enc (b.length : Nat)) ++ [k]) ++ b)).map (.int .u8)) slU8 rfl rfl HO (h.low HB) (by simp) oneCell_ints (by unfold maxLen; (try simp only [List.length_append, List.length_cons, List.length_nil, Ck.bytesI_length]); omega) HB.size (by (try simp only [List.length_append, List.length_cons, List.length_nil, Ck.bytesI_length]); (try omega)) (by rw [List.map_append (l₁ := ((Wr.enc (b.length : Nat)) ++ [k]))]; (try rfl)) rfl ?_
    intro A17 c17 w13 N_ hbb hc _
    replace HXv := HXv.chg hc (fun e => own_ne_blk HO HXv (by decide) e.symm)
    replace HB := HB.trans hbb
    clear hbb hc HO
    have HO := N_
    clear N_
    refine Fw.s (Fw.val_assign rfl) rfl ?_
    refine Fw.nil ?_
    refine hK5 _ _ ?_
    refine Fw.seq fun _ hK6 => ?_
    refine Fw.region ?_
    refine Fw.s (Fw.val_move rfl) rfl ?_
    refine Fw.s (Fw.val_move rfl) rfl ?_
    refine Fw.s (Fw.val_fieldAddr fl28_0 rfl rfl) rfl ?_
    refine Fw.ld sc5 rfl (HXv.cell 0) rfl ?_
    refine Fw.s (Fw.val_fieldAddr fl28_1 rfl rfl) rfl ?_
    refine Fw.ld sc26 rfl (HXv.cell 1) rfl ?_
    refine Fw.call cf36 rfl rfl (link_any s k A b c _ (h.low HB) hl hs hk hb) ?_
    rintro e_ w14 ⟨rfl, hb_⟩
    refine ⟨_, rfl, ?_⟩
    replace HXv := HXv.low hb_
    replace HO := own_below HO hb_ (Nat.le_refl _)
    replace HB := HB.trans (hb_.mono HB.size)
    clear hb_
    refine Fw.call cf42 rfl rfl (bytes_any (Jr.next s ⟨k, b⟩) _ (Jr.recI_U64 _ _ _)) ?_
    rintro e_ w15 ⟨A25, c25, rfl, HQ, hb_⟩
    refine ⟨_, rfl, ?_⟩
    replace HXv := HXv.low hb_
    replace HO := own_below HO hb_ (Nat.le_refl _)
    replace HB := HB.trans (hb_.mono HB.size)
    clear hb_
    refine Fw.append (base := w.heap.size) (((((Wr.enc (b.length : Nat)) ++ [k]) ++ b) ++ Ck.bytesI (Jr.next s ⟨k, b⟩))).length ((((((Wr.enc (b.length : Nat)) ++ [k]) ++ b) ++ Ck.bytesI (Jr.next s ⟨k, b⟩))).map (.int .u8)) slU8 rfl rfl HO (Rd.of_own HQ) (by simp [Ck.bytesI_length]) oneCell_ints (by unfold maxLen; (try simp only [List.length_append, List.length_cons, List.length_nil, Ck.bytesI_length]); omega) HB.size (by (try simp only [List.length_append, List.length_cons, List.length_nil, Ck.bytesI_length]); (try omega)) (by rw [List.map_append (l₁ := (((Wr.enc (b.length : Nat)) ++ [k]) ++ b))]; (try rfl)) rfl ?_
    intro A26 c26 w16 N_ hbb hc _
    replace HXv := HXv.chg hc (fun e => own_ne_blk HO HXv (by decide) e.symm)
    replace HB := HB.trans hbb
    clear hbb hc HO
    have HO := N_
    clear N_
    refine Fw.s (Fw.val_assign rfl) rfl ?_
    refine Fw.nil ?_
    refine hK6 _ _ (Fw.FC.sub (f' := [(4, _)]) (.cons rfl .nil) ?_)
    refine Fw.ret ?_
    refine Fw.ret_ [.tmp 4] [_] Try.results26 (.tmp rfl .nil) ?_
    rw [show ((((Wr.enc (b.length : Nat)) ++ [k]) ++ b) ++ Ck.bytesI (Jr.next s ⟨k, b⟩)) = Jr.one s ⟨k, b⟩ by unfold Jr.one; simp] at HO ⊢
    exact ⟨_, _, rfl, HO, HB⟩

set_option maxRecDepth 100000 in
set_option maxHeartbeats 1000000 in
theorem jbytes_any (w : World) (A : Option Addr) (l : List Rv) (c : Nat) (h : Recs w A l) (hn : l.length ≤ 1000) (hcap : l.length ≤ c) (hok : Jr.okL (rs l)) : Calls Try.prog 14 #[.slice A l.length c] w fun e_ w' => ∃ A' c', ((∀ v ∈ l, v.b.length ≤ 8192) → e_ = .returned (.tuple #[.slice A' (Jr.encs Jr.s0 (rs l)).length c', .int .i64 0]) ∧ w'.ownsRow w.heap.size 5 1 (.slice A' (Jr.encs Jr.s0 (rs l)).length c') (Jr.encs Jr.s0 (rs l)).length ((Jr.encs Jr.s0 (rs l)).map (.int .u8))) ∧ (¬ (∀ v ∈ l, v.b.length ≤ 8192) → e_ = .returned (.tuple #[.slice none 0 0, .int .i64 1])) ∧ Below w.heap.size w w' := by
  refine Fw.calls Try.func14 rfl Try.ntmps14 rfl ?_
  have HB := Below.refl (w.heap.size) w
  refine Fw.seq fun _ hK1 => ?_
  refine Fw.region ?_
  refine Fw.s (Fw.val_assign rfl) rfl ?_
  refine Fw.s (Fw.val_assign rfl) rfl ?_
  refine Fw.nil ?_
  refine hK1 _ _ ?_
  refine Fw.seq fun _ hK2 => ?_
  refine Fw.region ?_
  refine Fw.s (Fw.val_assign rfl) rfl ?_
  refine Fw.nil ?_
  refine hK2 _ _ ?_
  refine Fw.seq fun _ hK3 => ?_
  refine Fw.seq fun _ hK4 => ?_
  refine Fw.region ?_
  refine Fw.s (Fw.val_move rfl) rfl ?_
  refine Fw.s (Fw.val_len Try.underlying22 rfl) rfl ?_
  refine Fw.s (Fw.val_move rfl) rfl ?_
  refine Fw.nil ?_
  refine hK4 _ _ ?_
  refine Fw.block ?_
  have HO : w.ownsRow w.heap.size 5 1 (.slice none (Jr.encs Jr.s0 (rs (l.take 0))).length 0) (Jr.encs Jr.s0 (rs (l.take 0))).length ((Jr.encs Jr.s0 (rs (l.take 0))).map (.int .u8)) := World.ownsRow_nil _ _ _ _
  refine Fw.loop (fun m_ f_ W_ => ∃ (k : Nat) (A_ : Option Addr) (c_ : Nat), m_ = l.length - k ∧ k ≤ l.length ∧ (∀ v ∈ l.take k, v.b.length ≤ 8192) ∧ W_.ownsRow w.heap.size 5 1 (.slice A_ (Jr.encs Jr.s0 (rs (l.take k))).length c_) (Jr.encs Jr.s0 (rs (l.take k))).length ((Jr.encs Jr.s0 (rs (l.take k))).map (.int .u8)) ∧ Below (w.heap.size) w W_ ∧ f_ = [(9, .int .i64 k), (8, .int .i64 l.length), (7, .slice A l.length c), (4, .slice A_ (Jr.encs Jr.s0 (rs (l.take k))).length c_), (0, .slice A l.length c)]) ⟨_, _, ⟨0, none, 0, rfl, Nat.zero_le _, fun v hv => (by cases hv), HO, HB, rfl⟩, (.cons rfl (.cons rfl (.cons rfl (.cons rfl (.cons rfl .nil)))))⟩ ?_
  clear HO HB
  rintro m5_ _ w1 ⟨k, A_, c_, hm5_, hkl, hsm, HO, HB, rfl⟩
  refine Fw.seq fun _ hK6 => ?_
  refine Fw.region ?_
  refine Fw.s2 (Fw.val_bin rfl rfl Fw.b_lss) rfl ?_ ?_
  · rintro hk
    refine Fw.nil ?_
    refine hK6 _ _ ?_
    refine Fw.seq fun _ hK8 => ?_
    refine Fw.condT rfl ?_
    refine Fw.skip ?_
    refine hK8 _ _ ?_
    refine Fw.seq fun _ hK9 => ?_
    refine Fw.block ?_
    refine Fw.seq fun _ hK10 => ?_
    have hkn : k < l.length := by omega
    have hvk : l[k].r.ok ∧ l[k].r.b.length ≤ 100000 := hok _ (List.mem_map.2 ⟨_, List.getElem_mem hkn, rfl⟩)
    have htl : (l.take k).length = k := by rw [List.length_take]; omega
    obtain ⟨ad, b_, o_, hA, hadd, HE⟩ := Fw.rdAt Rv.len (by decide) (h.low HB).1 k hkn
    refine Fw.region ?_
    refine Fw.s (Fw.val_move rfl) rfl ?_
    refine Fw.s (Fw.val_indexR Try.underlying22 sz28 rfl hA rfl rfl hkn hadd) rfl ?_
    refine Fw.ldA ag28 rfl (HE) rfl rfl ?_
    refine Fw.alloc ze28 rfl ?_
    intro w2 gXv egXv HXv hb
    have lgXv : w.heap.size ≤ gXv := by have := HB.size; omega
    clear HE
    replace HO := own_below HO hb (Nat.le_refl _)
    replace HB := HB.trans (hb.mono HB.size)
    clear hb
    clear egXv
    refine Fw.s (Fw.val_assign rfl) rfl ?_
    refine Fw.storeW sz28 rfl rfl HXv rfl rfl (by exact Fw.oneCells rfl) ?_
    intro w3 N_ hc
    replace HO := own_to HO hc (fun g_ h_ e_ => own_ne HO HXv (by decide) (by rw [h_, e_]))
    replace HB := HB.trans (hc.below (B := w.heap.size) (fun k e => by omega) HB.size)
    clear hc
    clear HXv
    have HXv := N_
    clear N_
    refine Fw.nil ?_
    refine hK10 _ _ ?_
    refine Fw.seq fun _ hK12 => ?_
    refine Fw.seq fun _ hK13 => ?_
    refine Fw.region ?_
    refine Fw.s (Fw.val_fieldAddr fl28_1 rfl rfl) rfl ?_
    refine Fw.ld sc26 rfl (HXv.cell 1) rfl ?_
    refine Fw.s (Fw.val_len Try.underlying26 rfl) rfl ?_
    refine Fw.s2 (Fw.val_bin rfl rfl Fw.b_gtr) rfl ?_ ?_
    · rintro h8
      refine Fw.nil ?_
      refine hK13 _ _ (Fw.FC.sub (f' := [(17, _), (5, _), (6, _), (9, _), (8, _), (7, _), (4, _), (0, _)]) (.cons rfl (.cons rfl (.cons rfl (.cons rfl (.cons rfl (.cons rfl (.cons rfl (.cons rfl .nil)))))))) ?_)
      refine Fw.condT rfl ?_
      refine Fw.seq fun _ hK15 => ?_
      refine Fw.region ?_
      refine Fw.s (Fw.val_assign rfl) rfl ?_
      refine Fw.s (Fw.val_assign rfl) rfl ?_
      refine Fw.nil ?_
      refine hK15 _ _ (Fw.FC.sub (f' := [(3, _), (2, _)]) (.cons rfl (.cons rfl .nil)) ?_)
      refine Fw.ret ?_
      refine Fw.X_ret ?_
      refine Fw.X_blockR ?_
      refine Fw.X_ret ?_
      refine Fw.X_ret ?_
      refine Fw.X_blockR ?_
      refine Fw.X_ret ?_
      refine Fw.ret_ [.tmp 2, .tmp 3] [_, _] Try.results14 (.tmp rfl (.tmp rfl .nil)) ?_
      exact ⟨none, 0, fun h_ => absurd (h_ _ (List.getElem_mem hkn)) (by omega), fun _ => rfl, HB⟩
    · rintro h8
      refine Fw.nil ?_
      refine hK13 _ _ (Fw.FC.sub (f' := [(17, _), (5, _), (6, _), (9, _), (8, _), (7, _), (4, _), (0, _)]) (.cons rfl (.cons rfl (.cons rfl (.cons rfl (.cons rfl (.cons rfl (.cons rfl (.cons rfl .nil)))))))) ?_)
      refine Fw.condF rfl ?_
      refine Fw.skip ?_
      refine hK12 _ _ ?_
      have hBr : w.heap.size ≤ w3.heap.size := HB.size
      refine Fw.regionHS (fun W_ => Below (w.heap.size) w3 W_ ∧ Blk W_ gXv 28 #[.int .u8 l[k].k, .slice l[k].A l[k].b.length l[k].c]) (by kernel_rfl) ⟨(Fw.drew_low w3).mono hBr, HXv.low (Fw.drew_low w3)⟩ ?_
      have R_HXv := HXv
      have R_HB := HB
      intro w4 hb HS
      replace HS := HS.1
      replace HO := own_below HO hb (Nat.le_refl _)
      replace HXv := HXv.low hb
      replace HB := HB.trans (hb.mono HB.size)
      clear hb
      refine Fw.hTake 0 rfl rfl (by kernel_rfl) (by kernel_rfl) (by kernel_rfl) (Fw.yV (Fw.val_move rfl)) rfl ?_
      refine Fw.hTake 1 rfl rfl (by kernel_rfl) (by kernel_rfl) (by kernel_rfl) (Fw.yV (Fw.val_move rfl)) rfl ?_
      refine Fw.hTake 2 rfl rfl (by kernel_rfl) (by kernel_rfl) (by kernel_rfl) (Fw.yV (Fw.val_move rfl)) rfl ?_
      refine Fw.hTake 5 rfl rfl (by kernel_rfl) (by kernel_rfl) (by kernel_rfl) (Fw.yV (Fw.val_loadA ag28 rfl (fun _ h_ => Fw.rdBlk h_.2) rfl)) rfl ?_
      refine Fw.hAll1 3 (by kernel_rfl) ?_
      refine Fw.hOp 3 rfl ?_
      refine Fw.s (Fw.val_sliceTo (m := k) Try.underlying22 sz28 rfl rfl rfl (by omega)) rfl ?_
      refine Fw.hNext ⟨HS, HXv⟩ ?_
      refine Fw.hAll1 4 (by kernel_rfl) ?_
      refine Fw.hOp 4 rfl ?_
      refine Fw.call cf16 rfl rfl (by have := seal_any w4 A (l.take k) c ((h.low HB).take k) (by rw [htl]; omega) (fun r hr => by rw [rs_take] at hr; exact hok r (List.mem_of_mem_take hr)); rw [htl] at this; exact this) ?_
      rintro e_ w5 ⟨rfl, hb_⟩
      refine ⟨_, rfl, ?_⟩
      replace HO := own_below HO hb_ (Nat.le_refl _)
      replace HXv := HXv.low hb_
      replace HS := HS.trans (hb_.mono (Nat.le_trans hBr HS.size))
      replace HB := HB.trans (hb_.mono HB.size)
      clear hb_
      refine Fw.hNext ⟨HS, HXv⟩ ?_
      refine Fw.hAll1 6 (by kernel_rfl) ?_
      refine Fw.hOp 6 rfl ?_
      refine Fw.call cf26 rfl rfl (jone_any _ (Jr.sealF Jr.s0 (rs (l.take k))) l[k].k l[k].A l[k].b l[k].c ((h.low HB).at k hkn) hvk.2 (Jr.sealF_U64 _ _ Jr.s0_U64) hvk.1.1 hvk.1.2) ?_
      rintro e_ w6 ⟨A24, c24, rfl, HQ, hb_⟩
      refine ⟨_, rfl, ?_⟩
      replace HO := own_below HO hb_ (Nat.le_refl _)
      replace HXv := HXv.low hb_
      replace HS := HS.trans (hb_.mono (Nat.le_trans hBr HS.size))
      replace HB := HB.trans (hb_.mono HB.size)
      clear hb_
      refine Fw.hNext ⟨HS, HXv⟩ ?_
      refine Fw.hAll1 7 (by kernel_rfl) ?_
      refine Fw.hOp 7 rfl ?_
      have hex : (Jr.encs Jr.s0 (rs (l.take (k + 1)))) = (Jr.encs Jr.s0 (rs (l.take k))) ++ (Jr.one (Jr.sealF Jr.s0 (rs (l.take k))) ⟨l[k].k, l[k].b⟩) := by rw [rs_snoc l k hkn, Jr.encs_snoc]; rfl
      refine Fw.append (base := w.heap.size) ((Jr.encs Jr.s0 (rs (l.take (k + 1))))).length (((Jr.encs Jr.s0 (rs (l.take (k + 1))))).map (.int .u8)) slU8 rfl rfl HO (Rd.of_own HQ) (by simp) oneCell_ints (by have := congrArg List.length hex; rw [List.length_append] at this; have := jenc_len (s := Jr.s0) (l := rs (l.take (k + 1))) (fun r hr => by obtain ⟨v, hv, rfl⟩ := List.mem_map.1 hr; exact jsm hkn hsm (by omega) v hv); rw [rs_len, List.length_take] at this; unfold maxLen; omega) HB.size (by rw [hex, List.length_append]) (by rw [hex, List.map_append]) rfl ?_
      intro A25 c25 w7 N_ hbb hc _
      replace HXv := HXv.chg hc (fun e => own_ne_blk HO HXv (by decide) e.symm)
      replace HB := HB.trans hbb
      replace HS := HS.trans hbb
      clear hbb hc HO
      have HO := N_
      clear N_
      refine Fw.hNext ⟨HS, HXv⟩ ?_
      refine Fw.hTake 8 rfl rfl (by kernel_rfl) (by kernel_rfl) (by kernel_rfl) (Fw.yV (Fw.val_assign rfl)) rfl ?_
      refine Fw.hDone (by kernel_rfl) ?_
      refine Fw.X_blockN ?_
      refine hK9 _ _ (Fw.FC.sub (f' := [(4, _), (9, _), (8, _), (7, _), (0, _)]) (.cons rfl (.cons rfl (.cons rfl (.cons rfl (.cons rfl .nil))))) ?_)
      refine Fw.region ?_
      refine Fw.s (Fw.val_bin rfl rfl (Fw.b_add (Fw.i64_ok (by omega)))) rfl ?_
      refine Fw.s (Fw.val_move rfl) rfl ?_
      refine Fw.nil ?_
      refine Fw.roundEnd _ _ (by omega) ⟨k + 1, A25, c25, rfl, hkn, jsm hkn hsm (by omega), HO, HB, rfl⟩ (.cons rfl (.cons rfl (.cons rfl (.cons rfl (.cons rfl .nil)))))
  · rintro hk
    refine Fw.nil ?_
    refine hK6 _ _ ?_
    refine Fw.seq fun _ hK16 => ?_
    refine Fw.condF rfl ?_
    refine Fw.exit ?_
    refine Fw.X_exit ?_
    refine Fw.X_exit ?_
    refine Fw.X_block ?_
    refine hK3 _ _ ?_
    refine Fw.seq fun _ hK17 => ?_
    refine Fw.region ?_
    refine Fw.s (Fw.val_move rfl) rfl ?_
    refine Fw.s (Fw.val_assign rfl) rfl ?_
    refine Fw.s (Fw.val_assign rfl) rfl ?_
    refine Fw.nil ?_
    refine hK17 _ _ (Fw.FC.sub (f' := [(3, _), (2, _)]) (.cons rfl (.cons rfl .nil)) ?_)
    refine Fw.ret ?_
    refine Fw.ret_ [.tmp 2, .tmp 3] [_, _] Try.results14 (.tmp rfl (.tmp rfl .nil)) ?_
    obtain rfl : k = l.length := by omega
    rw [List.take_length] at HO hsm ⊢
    exact ⟨_, _, fun _ => ⟨rfl, HO⟩, fun h_ => absurd hsm h_, HB⟩

end Go.Proofs.Ytnljnnnplfjnhaa
