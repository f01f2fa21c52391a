/- Layer 27: All, Checksum, MergeIncident, MarkSilent, New. -/
import Derived.Test.YtmohhociomghhaaUsC
import Derived.Test.YtmohhociomghhaaCkWalks
namespace Go.Proofs.Ytmohhociomghhaa
set_option linter.unusedSimpArgs false
set_option linter.unusedVariables false
open Go.RowKit

set_option maxRecDepth 100000 in
set_option maxHeartbeats 1000000 in
theorem all_any (w : World) (B p g c : Nat) (l : List Us.U) (h : RegAt w B p g c l) (hl : l.length ≤ 256) : Calls Try.prog 15 #[.pointer (some ⟨p, 0, none⟩)] w fun e_ w' => ∃ A' c', e_ = .returned (.slice A' l.length c') ∧ w'.ownsRow w.heap.size 32 10 (.slice A' l.length c') l.length (l.flatMap Us.U.head) ∧ Below w.heap.size w w' := by
  have HR := h
  have hlt := h.lt
  obtain ⟨hBp, hBg, HP, HO⟩ := h
  refine Fw.calls Try.func15 rfl Try.ntmps15 rfl ?_
  have HB := Below.refl (w.heap.size) w
  refine Fw.seq fun _ hK1 => ?_
  refine Fw.region ?_
  refine Fw.s (Fw.val_assign rfl) rfl ?_
  refine Fw.nil ?_
  refine hK1 _ _ ?_
  refine Fw.seq fun _ hK2 => ?_
  refine Fw.region ?_
  refine Fw.s (Fw.val_move rfl) rfl ?_
  refine Fw.s (Fw.val_nil rfl) rfl ?_
  refine Fw.s (Fw.val_fieldAddr fl70_0 rfl rfl) rfl ?_
  refine Fw.ld sc68 rfl ((HP.low HB).cell 0) rfl ?_
  refine Fw.s (Fw.val_len Try.underlying68 rfl) rfl ?_
  refine Fw.makeG l.length sl48 zi32 rfl rfl rfl rfl (by omega) (by unfold maxLen; omega) HB.size rfl ?_
  intro w1 gN egN HN hb
  rw [Fw.made (cells := Us.U.head) (m := 10) Us.zero (Value.cells (.agg #[.int .i64 0, .int .i64 0, .int .i64 0, .int .i64 0, .int .i64 0, .int .i64 0, .int .i64 0, .int .i64 0, .int .i64 0, .int .i64 0])) rfl rfl] at HN
  have lgN : w.heap.size ≤ gN := by have := HB.size; omega
  replace HB := HB.trans (hb.mono HB.size)
  clear hb
  clear egN
  have hmz : l.length = (List.replicate l.length Us.zero).length := by simp
  refine Fw.s (Fw.val_assign rfl) rfl ?_
  refine Fw.nil ?_
  refine hK2 _ _ (Fw.FC.sub (f' := [(3, _), (0, _)]) (.cons rfl (.cons rfl .nil)) ?_)
  refine Fw.seq fun _ hK3 => ?_
  refine Fw.seq fun _ hK4 => ?_
  refine Fw.region ?_
  refine Fw.s (Fw.val_move rfl) rfl ?_
  refine Fw.s (Fw.val_nil rfl) rfl ?_
  refine Fw.s (Fw.val_fieldAddr fl70_0 rfl rfl) rfl ?_
  refine Fw.ld sc68 rfl ((HP.low HB).cell 0) rfl ?_
  refine Fw.s (Fw.val_len Try.underlying68 rfl) rfl ?_
  refine Fw.s (Fw.val_move rfl) rfl ?_
  refine Fw.nil ?_
  refine hK4 _ _ ?_
  refine Fw.block ?_
  replace HN : w1.ownsRow w.heap.size 32 10 (.slice (some ⟨gN, 0, none⟩) l.length l.length) l.length ((Fw.mix l (List.replicate l.length Us.zero) 0).flatMap Us.U.head) := by rw [Fw.mix_zero]; exact HN
  refine Fw.loop (fun m_ f_ W_ => ∃ (k : Nat), m_ = l.length - k ∧ k ≤ l.length ∧ W_.ownsRow w.heap.size 32 10 (.slice (some ⟨gN, 0, none⟩) l.length l.length) l.length ((Fw.mix l (List.replicate l.length Us.zero) k).flatMap Us.U.head) ∧ Below (w.heap.size) w W_ ∧ f_ = [(16, .int .i64 k), (15, .int .i64 l.length), (3, .slice (some ⟨gN, 0, none⟩) l.length l.length), (0, .pointer (some ⟨p, 0, none⟩))]) ⟨_, _, ⟨0, rfl, Nat.zero_le _, HN, HB, rfl⟩, (.cons rfl (.cons rfl (.cons rfl (.cons rfl .nil))))⟩ ?_
  clear HN HB
  rintro m5_ _ w2 ⟨k, hm5_, hkl, HN, HB, rfl⟩
  refine Fw.seq fun _ hK6 => ?_
  refine Fw.region ?_
  refine Fw.s2 (Fw.val_bin rfl rfl Fw.b_lss) rfl ?_ ?_
  · rintro hk
    refine Fw.nil ?_
    refine hK6 _ _ ?_
    refine Fw.seq fun _ hK8 => ?_
    refine Fw.condT rfl ?_
    refine Fw.skip ?_
    refine hK8 _ _ ?_
    refine Fw.seq fun _ hK9 => ?_
    refine Fw.block ?_
    refine Fw.seq fun _ hK10 => ?_
    refine Fw.region ?_
    refine Fw.s (Fw.val_move rfl) rfl ?_
    refine Fw.s (Fw.val_assign rfl) rfl ?_
    refine Fw.nil ?_
    refine hK10 _ _ ?_
    have hkn : k < l.length := by omega
    have HE := ((HR.low HB).at hkn).rd Us.U.len
    have HAt := Fw.At.mopen (k := k) Us.U.hlen hmz (by simpa using hkn) (by rw [← hmz]; exact HN)
    rw [List.getElem_replicate] at HAt
    clear HN
    refine Fw.region ?_
    refine Fw.s (Fw.val_move rfl) rfl ?_
    refine Fw.s (Fw.val_move rfl) rfl ?_
    refine Fw.s (Fw.val_move rfl) rfl ?_
    refine Fw.s (Fw.val_nil rfl) rfl ?_
    refine Fw.s (Fw.val_fieldAddr fl70_0 rfl rfl) rfl ?_
    refine Fw.ld sc68 rfl ((HP.low HB).cell 0) rfl ?_
    refine Fw.s (Fw.val_move rfl) rfl ?_
    refine Fw.s (Fw.val_indexR Try.underlying68 sz73 rfl rfl rfl rfl hkn (Fw.add0 g (k * 15))) rfl ?_
    refine Fw.s (Fw.val_fieldAddr fl73_0 rfl rfl) rfl ?_
    refine Fw.ldA ag32 rfl (Fw.rdPart HE 0 10) rfl rfl ?_
    refine Fw.s (Fw.val_indexR Try.underlying48 sz32 rfl rfl rfl rfl hkn (Fw.add00 gN (k * 10))) rfl ?_
    refine Fw.storeIA Us.U.hlen sz32 rfl rfl rfl HAt rfl (by exact Fw.oneCells rfl) ?_
    intro w3 N_ hc
    clear HE
    replace HB := HB.trans (hc.below (B := w.heap.size) (fun k e => by omega) HB.size)
    clear hc
    clear HAt
    have HAt := N_
    clear N_
    refine Fw.nil ?_
    refine Fw.X_blockN ?_
    refine hK9 _ _ (Fw.FC.sub (f' := [(16, _), (15, _), (3, _), (0, _)]) (.cons rfl (.cons rfl (.cons rfl (.cons rfl .nil)))) ?_)
    refine Fw.region ?_
    refine Fw.s (Fw.val_bin rfl rfl (Fw.b_add (Fw.i64_ok (by omega)))) rfl ?_
    refine Fw.s (Fw.val_move rfl) rfl ?_
    refine Fw.nil ?_
    have HN := Fw.At.mclose hmz (by simpa using hkn) l[k] rfl HAt
    rw [← hmz] at HN
    refine Fw.roundEnd _ _ (by omega) ⟨k + 1, rfl, hkn, HN, HB, rfl⟩ (.cons rfl (.cons rfl (.cons rfl (.cons rfl .nil))))
  · rintro hk
    refine Fw.nil ?_
    refine hK6 _ _ ?_
    refine Fw.seq fun _ hK13 => ?_
    refine Fw.condF rfl ?_
    refine Fw.exit ?_
    refine Fw.X_exit ?_
    refine Fw.X_exit ?_
    refine Fw.X_block ?_
    refine hK3 _ _ ?_
    refine Fw.seq fun _ hK14 => ?_
    obtain rfl : k = l.length := by omega
    rw [Fw.mix_all hmz (by simp)] at HN
    refine Fw.region ?_
    refine Fw.s (Fw.val_move rfl) rfl ?_
    refine Fw.s (Fw.val_assign rfl) rfl ?_
    refine Fw.nil ?_
    refine hK14 _ _ ?_
    refine Fw.ret ?_
    refine Fw.ret_ [.tmp 2] [_] Try.results15 (.tmp rfl .nil) ?_
    exact ⟨_, _, rfl, HN, HB⟩

set_option maxRecDepth 100000 in
set_option maxHeartbeats 1000000 in
theorem checksum_any (w : World) (B p g c : Nat) (l : List Us.U) (h : RegAt w B p g c l) (hl : l.length ≤ 256) : Calls Try.prog 21 #[.pointer (some ⟨p, 0, none⟩)] w fun e_ w' => e_ = .returned (.int .u64 (Ck.intsI (Us.sums l))) ∧ Below w.heap.size w w' := by
  have HR := h
  have hlt := h.lt
  obtain ⟨hBp, hBg, HP, HO⟩ := h
  refine Fw.calls Try.func21 rfl Try.ntmps21 rfl ?_
  have HB := Below.refl (w.heap.size) w
  refine Fw.seq fun _ hK1 => ?_
  refine Fw.region ?_
  refine Fw.s (Fw.val_assign rfl) rfl ?_
  refine Fw.nil ?_
  refine hK1 _ _ ?_
  refine Fw.seq fun _ hK2 => ?_
  refine Fw.region ?_
  refine Fw.s (Fw.val_assign rfl) rfl ?_
  refine Fw.nil ?_
  refine hK2 _ _ ?_
  refine Fw.seq fun _ hK3 => ?_
  refine Fw.seq fun _ hK4 => ?_
  refine Fw.region ?_
  refine Fw.s (Fw.val_move rfl) rfl ?_
  refine Fw.s (Fw.val_nil rfl) rfl ?_
  refine Fw.s (Fw.val_fieldAddr fl70_0 rfl rfl) rfl ?_
  refine Fw.ld sc68 rfl ((HP.low HB).cell 0) rfl ?_
  refine Fw.s (Fw.val_len Try.underlying68 rfl) rfl ?_
  refine Fw.s (Fw.val_move rfl) rfl ?_
  refine Fw.nil ?_
  refine hK4 _ _ ?_
  refine Fw.block ?_
  have HN : w.ownsRow w.heap.size 2 1 (.slice none ([] : List Int).length 0) ([] : List Int).length (([] : List Int).map (.int .i64)) := ⟨rfl, .inl ⟨rfl, rfl⟩⟩
  refine Fw.loop (fun m_ f_ W_ => ∃ (k : Nat) (r_ : List Int) (A_ : Option Addr) (c_ : Nat), m_ = l.length - k ∧ k ≤ l.length ∧ r_ = Us.sums (l.take k) ∧ W_.ownsRow w.heap.size 2 1 (.slice A_ r_.length c_) r_.length (r_.map (.int .i64)) ∧ Below (w.heap.size) w W_ ∧ f_ = [(11, .int .i64 k), (10, .int .i64 l.length), (3, .slice A_ r_.length c_), (0, .pointer (some ⟨p, 0, none⟩))]) ⟨_, _, ⟨0, [], none, 0, rfl, Nat.zero_le _, rfl, HN, HB, rfl⟩, (.cons rfl (.cons rfl (.cons rfl (.cons rfl .nil))))⟩ ?_
  clear HN HB
  rintro m5_ _ w1 ⟨k, r_, A_, c_, hm5_, hkl, hr, HN, HB, rfl⟩
  refine Fw.seq fun _ hK6 => ?_
  refine Fw.region ?_
  refine Fw.s2 (Fw.val_bin rfl rfl Fw.b_lss) rfl ?_ ?_
  · rintro hk
    refine Fw.nil ?_
    refine hK6 _ _ ?_
    refine Fw.seq fun _ hK8 => ?_
    refine Fw.condT rfl ?_
    refine Fw.skip ?_
    refine hK8 _ _ ?_
    refine Fw.seq fun _ hK9 => ?_
    refine Fw.block ?_
    refine Fw.seq fun _ hK10 => ?_
    refine Fw.region ?_
    refine Fw.s (Fw.val_move rfl) rfl ?_
    refine Fw.s (Fw.val_assign rfl) rfl ?_
    refine Fw.nil ?_
    refine hK10 _ _ ?_
    refine Fw.seq fun _ hK11 => ?_
    have hkn : k < l.length := by omega
    have HE := ((HR.low HB).at hkn).rd Us.U.len
    have hrl : r_.length ≤ 14 * 256 := by rw [hr, Us.sums_len, List.length_take]; omega
    have e1 : (r_ ++ Us.s1 l[k]).length = r_.length + 5 := List.length_append
    have e2 : ((r_ ++ Us.s1 l[k]) ++ Us.s2 l[k]).length = (r_ ++ Us.s1 l[k]).length + 5 := List.length_append
    have e3 : (((r_ ++ Us.s1 l[k]) ++ Us.s2 l[k]) ++ Us.s3 l[k]).length = ((r_ ++ Us.s1 l[k]) ++ Us.s2 l[k]).length + 4 := List.length_append
    refine Fw.region ?_
    refine Fw.s (Fw.val_move rfl) rfl ?_
    refine Fw.s (Fw.val_nil rfl) rfl ?_
    refine Fw.s (Fw.val_fieldAddr fl70_0 rfl rfl) rfl ?_
    refine Fw.ld sc68 rfl ((HP.low HB).cell 0) rfl ?_
    refine Fw.s (Fw.val_move rfl) rfl ?_
    refine Fw.s (Fw.val_indexR Try.underlying68 sz73 rfl rfl rfl rfl hkn (Fw.add0 g (k * 15))) rfl ?_
    refine Fw.s (Fw.val_assign rfl) rfl ?_
    refine Fw.nil ?_
    refine hK11 _ _ (Fw.FC.sub (f' := [(5, _), (11, _), (10, _), (3, _), (0, _)]) (.cons rfl (.cons rfl (.cons rfl (.cons rfl (.cons rfl .nil))))) ?_)
    refine Fw.seq fun _ hK13 => ?_
    have hBr : w.heap.size ≤ w1.heap.size := HB.size
    refine Fw.regionHS (Below (w.heap.size) w1) (by kernel_rfl) ((Fw.drew_low w1).mono hBr) ?_
    have R_HE := HE
    have R_HB := HB
    intro w2 hb HS
    replace HN := own_below HN hb (Nat.le_refl _)
    replace HE := HE.low hb
    replace HB := HB.trans (hb.mono HB.size)
    clear hb
    refine Fw.hTake 0 rfl rfl (by kernel_rfl) (by kernel_rfl) (by kernel_rfl) (Fw.yV (Fw.val_move rfl)) rfl ?_
    refine Fw.hTake 1 rfl rfl (by kernel_rfl) (by kernel_rfl) (by kernel_rfl) (Fw.yV (Fw.val_move rfl)) rfl ?_
    refine Fw.hTake 2 rfl rfl (by kernel_rfl) (by kernel_rfl) (by kernel_rfl) (Fw.yV (Fw.val_nil rfl)) rfl ?_
    refine Fw.hTake 3 rfl rfl (by kernel_rfl) (by kernel_rfl) (by kernel_rfl) (Fw.yV (Fw.val_fieldAddr fl73_0 rfl rfl)) rfl ?_
    refine Fw.hTake 4 rfl rfl (by kernel_rfl) (by kernel_rfl) (by kernel_rfl) (Fw.yV (Fw.val_fieldAddr fl32_0 rfl rfl)) rfl ?_
    refine Fw.hTake 5 rfl rfl (by kernel_rfl) (by kernel_rfl) (by kernel_rfl) (Fw.yV (Fw.hLdB sc3 rfl (Fw.rdCell R_HE 0 rfl) (by show g < w.heap.size; omega))) rfl ?_
    refine Fw.hTake 6 rfl rfl (by kernel_rfl) (by kernel_rfl) (by kernel_rfl) (Fw.yV (Fw.val_move rfl)) rfl ?_
    refine Fw.hTake 7 rfl rfl (by kernel_rfl) (by kernel_rfl) (by kernel_rfl) (Fw.yV (Fw.val_nil rfl)) rfl ?_
    refine Fw.hTake 8 rfl rfl (by kernel_rfl) (by kernel_rfl) (by kernel_rfl) (Fw.yV (Fw.val_fieldAddr fl73_0 rfl rfl)) rfl ?_
    refine Fw.hTake 9 rfl rfl (by kernel_rfl) (by kernel_rfl) (by kernel_rfl) (Fw.yV (Fw.val_fieldAddr fl32_1 rfl rfl)) rfl ?_
    refine Fw.hTake 10 rfl rfl (by kernel_rfl) (by kernel_rfl) (by kernel_rfl) (Fw.yV (Fw.hLdB sc3 rfl (Fw.rdCell R_HE 1 rfl) (by show g < w.heap.size; omega))) rfl ?_
    refine Fw.hTake 11 rfl rfl (by kernel_rfl) (by kernel_rfl) (by kernel_rfl) (Fw.yV (Fw.val_move rfl)) rfl ?_
    refine Fw.hTake 12 rfl rfl (by kernel_rfl) (by kernel_rfl) (by kernel_rfl) (Fw.yV (Fw.val_nil rfl)) rfl ?_
    refine Fw.hTake 13 rfl rfl (by kernel_rfl) (by kernel_rfl) (by kernel_rfl) (Fw.yV (Fw.val_fieldAddr fl73_0 rfl rfl)) rfl ?_
    refine Fw.hTake 14 rfl rfl (by kernel_rfl) (by kernel_rfl) (by kernel_rfl) (Fw.yV (Fw.val_fieldAddr fl32_2 rfl rfl)) rfl ?_
    refine Fw.hTake 15 rfl rfl (by kernel_rfl) (by kernel_rfl) (by kernel_rfl) (Fw.yV (Fw.hLdB sc3 rfl (Fw.rdCell R_HE 2 rfl) (by show g < w.heap.size; omega))) rfl ?_
    refine Fw.hTake 16 rfl rfl (by kernel_rfl) (by kernel_rfl) (by kernel_rfl) (Fw.yV (Fw.val_move rfl)) rfl ?_
    refine Fw.hTake 17 rfl rfl (by kernel_rfl) (by kernel_rfl) (by kernel_rfl) (Fw.yV (Fw.val_nil rfl)) rfl ?_
    refine Fw.hTake 18 rfl rfl (by kernel_rfl) (by kernel_rfl) (by kernel_rfl) (Fw.yV (Fw.val_fieldAddr fl73_0 rfl rfl)) rfl ?_
    refine Fw.hTake 19 rfl rfl (by kernel_rfl) (by kernel_rfl) (by kernel_rfl) (Fw.yV (Fw.val_fieldAddr fl32_3 rfl rfl)) rfl ?_
    refine Fw.hTake 20 rfl rfl (by kernel_rfl) (by kernel_rfl) (by kernel_rfl) (Fw.yV (Fw.hLdB sc3 rfl (Fw.rdCell R_HE 3 rfl) (by show g < w.heap.size; omega))) rfl ?_
    refine Fw.hTake 21 rfl rfl (by kernel_rfl) (by kernel_rfl) (by kernel_rfl) (Fw.yV (Fw.val_move rfl)) rfl ?_
    refine Fw.hTake 22 rfl rfl (by kernel_rfl) (by kernel_rfl) (by kernel_rfl) (Fw.yV (Fw.val_nil rfl)) rfl ?_
    refine Fw.hTake 23 rfl rfl (by kernel_rfl) (by kernel_rfl) (by kernel_rfl) (Fw.yV (Fw.val_fieldAddr fl73_0 rfl rfl)) rfl ?_
    refine Fw.hTake 24 rfl rfl (by kernel_rfl) (by kernel_rfl) (by kernel_rfl) (Fw.yV (Fw.val_fieldAddr fl32_4 rfl rfl)) rfl ?_
    refine Fw.hTake 25 rfl rfl (by kernel_rfl) (by kernel_rfl) (by kernel_rfl) (Fw.yV (Fw.hLdB sc3 rfl (Fw.rdCell R_HE 4 rfl) (by show g < w.heap.size; omega))) rfl ?_
    refine Fw.hAll1 26 (by kernel_rfl) ?_
    refine Fw.hOp 26 rfl ?_
    refine Fw.buildSlice [_, _, _, _, _] sl97 rfl rfl (by exact Fw.allSz rfl) (by decide) rfl ?_
    intro w3 gS46 egS46 HS46 hb
    have rgS46 : w1.heap.size ≤ gS46 := by have := HS.size; omega
    have lgS46 : w.heap.size ≤ gS46 := by have := HB.size; omega
    replace HN := own_below HN hb (Nat.le_refl _)
    replace HE := HE.low hb
    replace HS := HS.trans (hb.mono (Nat.le_trans hBr HS.size))
    replace HB := HB.trans (hb.mono HB.size)
    clear hb
    clear egS46
    refine Fw.hNext HS ?_
    refine Fw.hAll1 27 (by kernel_rfl) ?_
    refine Fw.hOp 27 rfl ?_
    refine Fw.append ((r_ ++ Us.s1 l[k])).length (((r_ ++ Us.s1 l[k])).map (.int .i64)) sl97 rfl rfl HN (show Rd _ _ ((Us.s1 l[k]).map (.int .i64)) from Fw.rdBlk HS46) rfl (Fw.oneCellsL rfl) (by unfold maxLen; omega) HB.size e1.symm List.map_append.symm rfl ?_
    intro A1 c1 w4 N_ hbb hc _
    replace HS := HS.trans hbb
    replace HB := HB.trans hbb
    clear hbb hc HN HE
    have HN := N_
    clear N_
    have HE := ((HR.low HB).at hkn).rd Us.U.len
    refine Fw.hNext HS ?_
    refine Fw.hTake 28 rfl rfl (by kernel_rfl) (by kernel_rfl) (by kernel_rfl) (Fw.yV (Fw.val_assign rfl)) rfl ?_
    refine Fw.hDone (by kernel_rfl) ?_
    refine hK13 _ _ (Fw.FC.sub (f' := [(3, _), (5, _), (11, _), (10, _), (0, _)]) (.cons rfl (.cons rfl (.cons rfl (.cons rfl (.cons rfl .nil))))) ?_)
    refine Fw.seq fun _ hK14 => ?_
    have hBr : w.heap.size ≤ w4.heap.size := HB.size
    refine Fw.regionHS (Below (w.heap.size) w4) (by kernel_rfl) ((Fw.drew_low w4).mono hBr) ?_
    have R_HE := HE
    have R_HB := HB
    intro w5 hb HS
    replace HN := own_below HN hb (Nat.le_refl _)
    replace HE := HE.low hb
    replace HB := HB.trans (hb.mono HB.size)
    clear hb
    refine Fw.hTake 0 rfl rfl (by kernel_rfl) (by kernel_rfl) (by kernel_rfl) (Fw.yV (Fw.val_move rfl)) rfl ?_
    refine Fw.hTake 1 rfl rfl (by kernel_rfl) (by kernel_rfl) (by kernel_rfl) (Fw.yV (Fw.val_move rfl)) rfl ?_
    refine Fw.hTake 2 rfl rfl (by kernel_rfl) (by kernel_rfl) (by kernel_rfl) (Fw.yV (Fw.val_nil rfl)) rfl ?_
    refine Fw.hTake 3 rfl rfl (by kernel_rfl) (by kernel_rfl) (by kernel_rfl) (Fw.yV (Fw.val_fieldAddr fl73_0 rfl rfl)) rfl ?_
    refine Fw.hTake 4 rfl rfl (by kernel_rfl) (by kernel_rfl) (by kernel_rfl) (Fw.yV (Fw.val_fieldAddr fl32_5 rfl rfl)) rfl ?_
    refine Fw.hTake 5 rfl rfl (by kernel_rfl) (by kernel_rfl) (by kernel_rfl) (Fw.yV (Fw.hLdB sc2 rfl (Fw.rdCell R_HE 5 rfl) (by show g < w.heap.size; omega))) rfl ?_
    refine Fw.hTake 6 rfl rfl (by kernel_rfl) (by kernel_rfl) (by kernel_rfl) (Fw.yV (Fw.val_move rfl)) rfl ?_
    refine Fw.hTake 7 rfl rfl (by kernel_rfl) (by kernel_rfl) (by kernel_rfl) (Fw.yV (Fw.val_nil rfl)) rfl ?_
    refine Fw.hTake 8 rfl rfl (by kernel_rfl) (by kernel_rfl) (by kernel_rfl) (Fw.yV (Fw.val_fieldAddr fl73_0 rfl rfl)) rfl ?_
    refine Fw.hTake 9 rfl rfl (by kernel_rfl) (by kernel_rfl) (by kernel_rfl) (Fw.yV (Fw.val_fieldAddr fl32_6 rfl rfl)) rfl ?_
    refine Fw.hTake 10 rfl rfl (by kernel_rfl) (by kernel_rfl) (by kernel_rfl) (Fw.yV (Fw.hLdB sc2 rfl (Fw.rdCell R_HE 6 rfl) (by show g < w.heap.size; omega))) rfl ?_
    refine Fw.hTake 11 rfl rfl (by kernel_rfl) (by kernel_rfl) (by kernel_rfl) (Fw.yV (Fw.val_move rfl)) rfl ?_
    refine Fw.hTake 12 rfl rfl (by kernel_rfl) (by kernel_rfl) (by kernel_rfl) (Fw.yV (Fw.val_nil rfl)) rfl ?_
    refine Fw.hTake 13 rfl rfl (by kernel_rfl) (by kernel_rfl) (by kernel_rfl) (Fw.yV (Fw.val_fieldAddr fl73_0 rfl rfl)) rfl ?_
    refine Fw.hTake 14 rfl rfl (by kernel_rfl) (by kernel_rfl) (by kernel_rfl) (Fw.yV (Fw.val_fieldAddr fl32_7 rfl rfl)) rfl ?_
    refine Fw.hTake 15 rfl rfl (by kernel_rfl) (by kernel_rfl) (by kernel_rfl) (Fw.yV (Fw.hLdB sc2 rfl (Fw.rdCell R_HE 7 rfl) (by show g < w.heap.size; omega))) rfl ?_
    refine Fw.hTake 16 rfl rfl (by kernel_rfl) (by kernel_rfl) (by kernel_rfl) (Fw.yV (Fw.val_move rfl)) rfl ?_
    refine Fw.hTake 17 rfl rfl (by kernel_rfl) (by kernel_rfl) (by kernel_rfl) (Fw.yV (Fw.val_nil rfl)) rfl ?_
    refine Fw.hTake 18 rfl rfl (by kernel_rfl) (by kernel_rfl) (by kernel_rfl) (Fw.yV (Fw.val_fieldAddr fl73_0 rfl rfl)) rfl ?_
    refine Fw.hTake 19 rfl rfl (by kernel_rfl) (by kernel_rfl) (by kernel_rfl) (Fw.yV (Fw.val_fieldAddr fl32_8 rfl rfl)) rfl ?_
    refine Fw.hTake 20 rfl rfl (by kernel_rfl) (by kernel_rfl) (by kernel_rfl) (Fw.yV (Fw.hLdB sc2 rfl (Fw.rdCell R_HE 8 rfl) (by show g < w.heap.size; omega))) rfl ?_
    refine Fw.hTake 21 rfl rfl (by kernel_rfl) (by kernel_rfl) (by kernel_rfl) (Fw.yV (Fw.val_move rfl)) rfl ?_
    refine Fw.hTake 22 rfl rfl (by kernel_rfl) (by kernel_rfl) (by kernel_rfl) (Fw.yV (Fw.val_nil rfl)) rfl ?_
    refine Fw.hTake 23 rfl rfl (by kernel_rfl) (by kernel_rfl) (by kernel_rfl) (Fw.yV (Fw.val_fieldAddr fl73_0 rfl rfl)) rfl ?_
    refine Fw.hTake 24 rfl rfl (by kernel_rfl) (by kernel_rfl) (by kernel_rfl) (Fw.yV (Fw.val_fieldAddr fl32_9 rfl rfl)) rfl ?_
    refine Fw.hTake 25 rfl rfl (by kernel_rfl) (by kernel_rfl) (by kernel_rfl) (Fw.yV (Fw.hLdB sc2 rfl (Fw.rdCell R_HE 9 rfl) (by show g < w.heap.size; omega))) rfl ?_
    refine Fw.hAll1 26 (by kernel_rfl) ?_
    refine Fw.hOp 26 rfl ?_
    refine Fw.buildSlice [_, _, _, _, _] sl97 rfl rfl (by exact Fw.allSz rfl) (by decide) rfl ?_
    intro w6 gS74 egS74 HS74 hb
    have rgS74 : w4.heap.size ≤ gS74 := by have := HS.size; omega
    have lgS74 : w.heap.size ≤ gS74 := by have := HB.size; omega
    replace HN := own_below HN hb (Nat.le_refl _)
    replace HE := HE.low hb
    replace HS := HS.trans (hb.mono (Nat.le_trans hBr HS.size))
    replace HB := HB.trans (hb.mono HB.size)
    clear hb
    clear egS74
    refine Fw.hNext HS ?_
    refine Fw.hAll1 27 (by kernel_rfl) ?_
    refine Fw.hOp 27 rfl ?_
    refine Fw.append (((r_ ++ Us.s1 l[k]) ++ Us.s2 l[k])).length ((((r_ ++ Us.s1 l[k]) ++ Us.s2 l[k])).map (.int .i64)) sl97 rfl rfl HN (show Rd _ _ ((Us.s2 l[k]).map (.int .i64)) from Fw.rdBlk HS74) rfl (Fw.oneCellsL rfl) (by unfold maxLen; omega) HB.size e2.symm List.map_append.symm rfl ?_
    intro A2 c2 w7 N_ hbb hc _
    replace HS := HS.trans hbb
    replace HB := HB.trans hbb
    clear hbb hc HN HE
    have HN := N_
    clear N_
    have HE := ((HR.low HB).at hkn).rd Us.U.len
    refine Fw.hNext HS ?_
    refine Fw.hTake 28 rfl rfl (by kernel_rfl) (by kernel_rfl) (by kernel_rfl) (Fw.yV (Fw.val_assign rfl)) rfl ?_
    refine Fw.hDone (by kernel_rfl) ?_
    refine hK14 _ _ (Fw.FC.sub (f' := [(3, _), (5, _), (11, _), (10, _), (0, _)]) (.cons rfl (.cons rfl (.cons rfl (.cons rfl (.cons rfl .nil))))) ?_)
    have hBr : w.heap.size ≤ w7.heap.size := HB.size
    refine Fw.regionHS (Below (w.heap.size) w7) (by kernel_rfl) ((Fw.drew_low w7).mono hBr) ?_
    have R_HE := HE
    have R_HB := HB
    intro w8 hb HS
    replace HN := own_below HN hb (Nat.le_refl _)
    replace HE := HE.low hb
    replace HB := HB.trans (hb.mono HB.size)
    clear hb
    refine Fw.hTake 0 rfl rfl (by kernel_rfl) (by kernel_rfl) (by kernel_rfl) (Fw.yV (Fw.val_move rfl)) rfl ?_
    refine Fw.hTake 1 rfl rfl (by kernel_rfl) (by kernel_rfl) (by kernel_rfl) (Fw.yV (Fw.val_move rfl)) rfl ?_
    refine Fw.hTake 2 rfl rfl (by kernel_rfl) (by kernel_rfl) (by kernel_rfl) (Fw.yV (Fw.val_nil rfl)) rfl ?_
    refine Fw.hTake 3 rfl rfl (by kernel_rfl) (by kernel_rfl) (by kernel_rfl) (Fw.yV (Fw.val_fieldAddr fl73_1 rfl rfl)) rfl ?_
    refine Fw.hTake 4 rfl rfl (by kernel_rfl) (by kernel_rfl) (by kernel_rfl) (Fw.yV (Fw.val_fieldAddr fl36_1 rfl rfl)) rfl ?_
    refine Fw.hTake 5 rfl rfl (by kernel_rfl) (by kernel_rfl) (by kernel_rfl) (Fw.yV (Fw.hLdB sc2 rfl (Fw.rdCell R_HE 11 rfl) (by show g < w.heap.size; omega))) rfl ?_
    refine Fw.hTake 6 rfl rfl (by kernel_rfl) (by kernel_rfl) (by kernel_rfl) (Fw.yV (Fw.val_move rfl)) rfl ?_
    refine Fw.hTake 7 rfl rfl (by kernel_rfl) (by kernel_rfl) (by kernel_rfl) (Fw.yV (Fw.val_nil rfl)) rfl ?_
    refine Fw.hTake 8 rfl rfl (by kernel_rfl) (by kernel_rfl) (by kernel_rfl) (Fw.yV (Fw.val_fieldAddr fl73_1 rfl rfl)) rfl ?_
    refine Fw.hTake 9 rfl rfl (by kernel_rfl) (by kernel_rfl) (by kernel_rfl) (Fw.yV (Fw.val_fieldAddr fl36_2 rfl rfl)) rfl ?_
    refine Fw.hTake 10 rfl rfl (by kernel_rfl) (by kernel_rfl) (by kernel_rfl) (Fw.yV (Fw.hLdB sc3 rfl (Fw.rdCell R_HE 12 rfl) (by show g < w.heap.size; omega))) rfl ?_
    refine Fw.hTake 11 rfl rfl (by kernel_rfl) (by kernel_rfl) (by kernel_rfl) (Fw.yV (Fw.val_move rfl)) rfl ?_
    refine Fw.hTake 12 rfl rfl (by kernel_rfl) (by kernel_rfl) (by kernel_rfl) (Fw.yV (Fw.val_nil rfl)) rfl ?_
    refine Fw.hTake 13 rfl rfl (by kernel_rfl) (by kernel_rfl) (by kernel_rfl) (Fw.yV (Fw.val_fieldAddr fl73_1 rfl rfl)) rfl ?_
    refine Fw.hTake 14 rfl rfl (by kernel_rfl) (by kernel_rfl) (by kernel_rfl) (Fw.yV (Fw.val_fieldAddr fl36_3 rfl rfl)) rfl ?_
    refine Fw.hTake 15 rfl rfl (by kernel_rfl) (by kernel_rfl) (by kernel_rfl) (Fw.yV (Fw.hLdB sc2 rfl (Fw.rdCell R_HE 13 rfl) (by show g < w.heap.size; omega))) rfl ?_
    refine Fw.hTake 16 rfl rfl (by kernel_rfl) (by kernel_rfl) (by kernel_rfl) (Fw.yV (Fw.val_move rfl)) rfl ?_
    refine Fw.hTake 17 rfl rfl (by kernel_rfl) (by kernel_rfl) (by kernel_rfl) (Fw.yV (Fw.val_nil rfl)) rfl ?_
    refine Fw.hTake 18 rfl rfl (by kernel_rfl) (by kernel_rfl) (by kernel_rfl) (Fw.yV (Fw.val_fieldAddr fl73_1 rfl rfl)) rfl ?_
    refine Fw.hTake 19 rfl rfl (by kernel_rfl) (by kernel_rfl) (by kernel_rfl) (Fw.yV (Fw.val_fieldAddr fl36_4 rfl rfl)) rfl ?_
    refine Fw.hTake 20 rfl rfl (by kernel_rfl) (by kernel_rfl) (by kernel_rfl) (Fw.yV (Fw.hLdB sc3 rfl (Fw.rdCell R_HE 14 rfl) (by show g < w.heap.size; omega))) rfl ?_
    refine Fw.hAll1 21 (by kernel_rfl) ?_
    refine Fw.hOp 21 rfl ?_
    refine Fw.buildSlice [_, _, _, _] sl97 rfl rfl (by exact Fw.allSz rfl) (by decide) rfl ?_
    intro w9 gS97 egS97 HS97 hb
    have rgS97 : w7.heap.size ≤ gS97 := by have := HS.size; omega
    have lgS97 : w.heap.size ≤ gS97 := by have := HB.size; omega
    replace HN := own_below HN hb (Nat.le_refl _)
    replace HE := HE.low hb
    replace HS := HS.trans (hb.mono (Nat.le_trans hBr HS.size))
    replace HB := HB.trans (hb.mono HB.size)
    clear hb
    clear egS97
    refine Fw.hNext HS ?_
    refine Fw.hAll1 22 (by kernel_rfl) ?_
    refine Fw.hOp 22 rfl ?_
    refine Fw.append ((((r_ ++ Us.s1 l[k]) ++ Us.s2 l[k]) ++ Us.s3 l[k])).length (((((r_ ++ Us.s1 l[k]) ++ Us.s2 l[k]) ++ Us.s3 l[k])).map (.int .i64)) sl97 rfl rfl HN (show Rd _ _ ((Us.s3 l[k]).map (.int .i64)) from Fw.rdBlk HS97) rfl (Fw.oneCellsL rfl) (by unfold maxLen; omega) HB.size e3.symm List.map_append.symm rfl ?_
    intro A3 c3 w10 N_ hbb hc _
    replace HS := HS.trans hbb
    replace HB := HB.trans hbb
    clear hbb hc HN HE
    have HN := N_
    clear N_
    have HE := ((HR.low HB).at hkn).rd Us.U.len
    refine Fw.hNext HS ?_
    refine Fw.hTake 23 rfl rfl (by kernel_rfl) (by kernel_rfl) (by kernel_rfl) (Fw.yV (Fw.val_assign rfl)) rfl ?_
    refine Fw.hDone (by kernel_rfl) ?_
    refine Fw.X_blockN ?_
    refine hK9 _ _ (Fw.FC.sub (f' := [(3, _), (11, _), (10, _), (0, _)]) (.cons rfl (.cons rfl (.cons rfl (.cons rfl .nil)))) ?_)
    refine Fw.region ?_
    refine Fw.s (Fw.val_bin rfl rfl (Fw.b_add (Fw.i64_ok (by omega)))) rfl ?_
    refine Fw.s (Fw.val_move rfl) rfl ?_
    refine Fw.nil ?_
    refine Fw.roundEnd _ _ (by omega) ⟨k + 1, (((r_ ++ Us.s1 l[k]) ++ Us.s2 l[k]) ++ Us.s3 l[k]), A3, c3, rfl, hkn, by rw [hr, Us.sums_snoc l k hkn]; simp [Us.s1, Us.s2, Us.s3], HN, HB, rfl⟩ (.cons rfl (.cons rfl (.cons rfl (.cons rfl .nil))))
  · rintro hk
    refine Fw.nil ?_
    refine hK6 _ _ ?_
    refine Fw.seq fun _ hK15 => ?_
    refine Fw.condF rfl ?_
    refine Fw.exit ?_
    refine Fw.X_exit ?_
    refine Fw.X_exit ?_
    refine Fw.X_block ?_
    refine hK3 _ _ ?_
    refine Fw.seq fun _ hK16 => ?_
    obtain rfl : k = l.length := by omega
    rw [List.take_length] at hr
    subst hr
    refine Fw.region ?_
    refine Fw.s (Fw.val_move rfl) rfl ?_
    refine Fw.call cf46 rfl rfl (sumInts_any A_ (Us.sums l) c_ _ (Rd.of_own HN) (by have := Us.sums_len l; unfold maxLen; omega)) ?_
    rintro e_ _ ⟨rfl, rfl⟩
    refine ⟨_, rfl, ?_⟩
    refine Fw.s (Fw.val_assign rfl) rfl ?_
    refine Fw.nil ?_
    refine hK16 _ _ (Fw.FC.sub (f' := [(2, _)]) (.cons rfl .nil) ?_)
    refine Fw.ret ?_
    refine Fw.ret_ [.tmp 2] [_] Try.results21 (.tmp rfl .nil) ?_
    exact ⟨rfl, HB⟩

end Go.Proofs.Ytmohhociomghhaa
