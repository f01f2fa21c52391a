/- Layer 49: the law's own conversions. -/
import Derived.Test.YtgmhcfhmpjpomaaT49
import Derived.Test.YtgmhcfhmpjpomaaHiC
namespace Go.Proofs.Ytgmhcfhmpjpomaa
set_option linter.unusedSimpArgs false
set_option linter.unusedVariables false
open Go.RowKit

theorem Hi.cells_len (v : Hi.V) : v.cells.length = 5 := rfl
theorem Hi.vals_snoc (l : List Hi.V) (k : Nat) (hk : k < l.length) : Hi.vals (l.take k) ++ Hi.V.cells l[k] = Hi.vals (l.take (k + 1)) := by
  rw [List.take_succ_eq_append_getElem hk, Hi.vals_append]; simp [Hi.vals]

set_option maxRecDepth 100000 in
theorem own_any (w : World) (A : Option Addr) (l : List Hi.V) (c : Nat) (h : Rd w A (Hi.vals l)) (hl : l.length ≤ 10000) :
    Calls Try.prog 16 #[.slice A l.length c] w fun e w' => ∃ A' c', e = .returned (.slice A' l.length c') ∧ w'.ownsRow w.heap.size 30 5 (.slice A' l.length c') l.length (Hi.vals l) ∧ Below w.heap.size w w' := by
  refine Fw.calls Try.func16 rfl Try.ntmps16 rfl ?_
  have HB := Below.refl (w.heap.size) w
  refine Fw.seq fun _ hK1 => ?_
  refine Fw.region ?_
  refine Fw.s (Fw.val_assign rfl) rfl ?_
  refine Fw.nil ?_
  refine hK1 _ _ ?_
  refine Fw.seq fun _ hK2 => ?_
  refine Fw.region ?_
  refine Fw.s (Fw.val_assign rfl) rfl ?_
  refine Fw.nil ?_
  refine hK2 _ _ ?_
  refine Fw.seq fun _ hK3 => ?_
  refine Fw.seq fun _ hK4 => ?_
  refine Fw.region ?_
  refine Fw.s (Fw.val_move rfl) rfl ?_
  refine Fw.s (Fw.val_len Try.underlying22 rfl) rfl ?_
  refine Fw.s (Fw.val_move rfl) rfl ?_
  refine Fw.nil ?_
  refine hK4 _ _ ?_
  refine Fw.block ?_
  have HO : w.ownsRow w.heap.size 30 5 (.slice none 0 0) 0 [] := ⟨rfl, .inl ⟨rfl, rfl⟩⟩
  refine Fw.loop (fun m_ f_ W_ => ∃ (k : Nat) (A_ : Option Addr) (c_ : Nat), m_ = l.length - k ∧ k ≤ l.length ∧ W_.ownsRow w.heap.size 30 5 (.slice A_ k c_) (k) (Hi.vals (l.take k)) ∧ Below (w.heap.size) w W_ ∧ f_ = [(8, .int .i64 k), (7, .int .i64 l.length), (6, .slice A l.length c), (3, .slice A_ k c_)]) ⟨_, _, ⟨0, none, 0, rfl, Nat.zero_le _, HO, HB, rfl⟩, (.cons rfl (.cons rfl (.cons rfl (.cons rfl .nil))))⟩ ?_
  clear HO HB
  rintro m5_ _ w1 ⟨k, A_, c_, hm5_, hkl, HO, HB, rfl⟩
  refine Fw.seq fun _ hK6 => ?_
  refine Fw.region ?_
  refine Fw.s2 (Fw.val_bin rfl rfl Fw.b_lss) rfl ?_ ?_
  · rintro hk
    refine Fw.nil ?_
    refine hK6 _ _ ?_
    refine Fw.seq fun _ hK8 => ?_
    refine Fw.condT rfl ?_
    refine Fw.skip ?_
    refine hK8 _ _ ?_
    refine Fw.seq fun _ hK9 => ?_
    refine Fw.block ?_
    refine Fw.seq fun _ hK10 => ?_
    have hkn : k < l.length := by omega
    refine Fw.region ?_
    obtain ⟨ad, b, o, hA, hadd, HE⟩ := Fw.rdAt Hi.cells_len (by decide) (h.low HB) k hkn
    refine Fw.s (Fw.val_indexR Try.underlying22 sz33 rfl hA rfl rfl hkn hadd) rfl ?_
    refine Fw.ldA ag33 rfl (HE) rfl rfl ?_
    refine Fw.alloc ze33 rfl ?_
    intro w2 gX5 egX5 HX5 hb
    have lgX5 : w.heap.size ≤ gX5 := by have := HB.size; omega
    clear HE
    replace HO := own_below HO hb (Nat.le_refl _)
    replace HB := HB.trans (hb.mono HB.size)
    clear hb
    clear egX5
    refine Fw.storeW sz33 rfl rfl HX5 rfl rfl (by exact Fw.oneCells rfl) ?_
    intro w3 N_ hc
    replace HO := own_to HO hc (fun g_ h_ e_ => own_ne HO HX5 (by decide) (by rw [h_, e_]))
    replace HB := HB.trans (hc.below (B := w.heap.size) (fun k e => by omega) HB.size)
    clear hc
    clear HX5
    have HX5 := N_
    clear N_
    refine Fw.nil ?_
    refine hK10 _ _ ?_
    refine Fw.region ?_
    refine Fw.s (Fw.val_move rfl) rfl ?_
    refine Fw.s (Fw.val_fieldAddr fl33_0 rfl rfl) rfl ?_
    refine Fw.ld sc2 rfl (HX5.cell 0) rfl ?_
    refine Fw.s (Fw.val_fieldAddr fl33_1 rfl rfl) rfl ?_
    refine Fw.ld sc2 rfl (HX5.cell 1) rfl ?_
    refine Fw.s (Fw.val_fieldAddr fl33_2 rfl rfl) rfl ?_
    refine Fw.ld sc28 rfl (HX5.cell 2) rfl ?_
    refine Fw.s (Fw.val_fieldAddr fl33_3 rfl rfl) rfl ?_
    refine Fw.ld sc28 rfl (HX5.cell 3) rfl ?_
    refine Fw.s (Fw.val_fieldAddr fl33_4 rfl rfl) rfl ?_
    refine Fw.ld sc28 rfl (HX5.cell 4) rfl ?_
    refine Fw.s (Fw.val_build (ps := [(0, _), (1, _), (2, _), (3, _), (4, _)]) rfl (bu30_0_1_2_3_4 _ _ _ _ _)) rfl ?_
    refine Fw.buildSlice [_] sl38 rfl rfl (by exact Fw.allSz rfl) (by decide) rfl ?_
    intro w4 gS24 egS24 HS24 hb
    have n_gX5_gS24 : gX5 < gS24 := by have := HX5.lt; omega
    have lgS24 : w.heap.size ≤ gS24 := by have := HB.size; omega
    replace HO := own_below HO hb (Nat.le_refl _)
    replace HX5 := HX5.low hb
    replace HB := HB.trans (hb.mono HB.size)
    clear hb
    clear egS24
    have hts : Hi.vals (l.take k) ++ Hi.V.cells l[k] = Hi.vals (l.take (k + 1)) := Hi.vals_snoc l k hkn
    refine Fw.append (k + 1) (Hi.vals (l.take (k + 1))) sl38 rfl rfl HO (show Rd _ _ (Hi.V.cells l[k]) from Fw.rdBlk HS24) rfl (Fw.oneCellsL rfl) (by unfold maxLen; omega) HB.size rfl hts rfl ?_
    intro A' c' w5 N_ hbb _ _
    replace HB := HB.trans hbb
    clear HO
    have HO := N_
    refine Fw.s (Fw.val_assign rfl) rfl ?_
    refine Fw.nil ?_
    refine Fw.X_blockN ?_
    refine hK9 _ _ (Fw.FC.sub (f' := [(3, _), (8, _), (7, _), (6, _)]) (.cons rfl (.cons rfl (.cons rfl (.cons rfl .nil)))) ?_)
    refine Fw.region ?_
    refine Fw.s (Fw.val_bin rfl rfl (Fw.b_add (Fw.i64_ok (by omega)))) rfl ?_
    refine Fw.s (Fw.val_move rfl) rfl ?_
    refine Fw.nil ?_
    refine Fw.roundEnd _ _ (by omega) ⟨k + 1, A', c', rfl, hkn, HO, HB, rfl⟩ (.cons rfl (.cons rfl (.cons rfl (.cons rfl .nil))))
  · rintro hk
    refine Fw.nil ?_
    refine hK6 _ _ ?_
    refine Fw.seq fun _ hK12 => ?_
    refine Fw.condF rfl ?_
    refine Fw.exit ?_
    refine Fw.X_exit ?_
    refine Fw.X_exit ?_
    refine Fw.X_block ?_
    refine hK3 _ _ ?_
    refine Fw.seq fun _ hK13 => ?_
    refine Fw.region ?_
    refine Fw.s (Fw.val_move rfl) rfl ?_
    refine Fw.s (Fw.val_assign rfl) rfl ?_
    refine Fw.nil ?_
    refine hK13 _ _ ?_
    refine Fw.ret ?_
    refine Fw.ret_ [.tmp 2] [_] Try.results16 (.tmp rfl .nil) ?_
    obtain rfl : k = l.length := by omega
    rw [List.take_length] at HO
    exact ⟨_, _, rfl, HO, HB⟩

set_option maxRecDepth 100000 in
theorem back_any (w : World) (A : Option Addr) (l : List Hi.V) (c : Nat) (h : Rd w A (Hi.vals l)) (hl : l.length ≤ 10000) :
    Calls Try.prog 14 #[.slice A l.length c] w fun e w' => ∃ A' c', e = .returned (.slice A' l.length c') ∧ w'.ownsRow w.heap.size 33 5 (.slice A' l.length c') l.length (Hi.vals l) ∧ Below w.heap.size w w' := by
  refine Fw.calls Try.func14 rfl Try.ntmps14 rfl ?_
  have HB := Below.refl (w.heap.size) w
  refine Fw.seq fun _ hK1 => ?_
  refine Fw.region ?_
  refine Fw.s (Fw.val_assign rfl) rfl ?_
  refine Fw.nil ?_
  refine hK1 _ _ ?_
  refine Fw.seq fun _ hK2 => ?_
  refine Fw.region ?_
  refine Fw.s (Fw.val_assign rfl) rfl ?_
  refine Fw.nil ?_
  refine hK2 _ _ ?_
  refine Fw.seq fun _ hK3 => ?_
  refine Fw.seq fun _ hK4 => ?_
  refine Fw.region ?_
  refine Fw.s (Fw.val_move rfl) rfl ?_
  refine Fw.s (Fw.val_len Try.underlying38 rfl) rfl ?_
  refine Fw.s (Fw.val_move rfl) rfl ?_
  refine Fw.nil ?_
  refine hK4 _ _ ?_
  refine Fw.block ?_
  have HO : w.ownsRow w.heap.size 33 5 (.slice none 0 0) 0 [] := ⟨rfl, .inl ⟨rfl, rfl⟩⟩
  refine Fw.loop (fun m_ f_ W_ => ∃ (k : Nat) (A_ : Option Addr) (c_ : Nat), m_ = l.length - k ∧ k ≤ l.length ∧ W_.ownsRow w.heap.size 33 5 (.slice A_ k c_) (k) (Hi.vals (l.take k)) ∧ Below (w.heap.size) w W_ ∧ f_ = [(8, .int .i64 k), (7, .int .i64 l.length), (6, .slice A l.length c), (3, .slice A_ k c_)]) ⟨_, _, ⟨0, none, 0, rfl, Nat.zero_le _, HO, HB, rfl⟩, (.cons rfl (.cons rfl (.cons rfl (.cons rfl .nil))))⟩ ?_
  clear HO HB
  rintro m5_ _ w1 ⟨k, A_, c_, hm5_, hkl, HO, HB, rfl⟩
  refine Fw.seq fun _ hK6 => ?_
  refine Fw.region ?_
  refine Fw.s2 (Fw.val_bin rfl rfl Fw.b_lss) rfl ?_ ?_
  · rintro hk
    refine Fw.nil ?_
    refine hK6 _ _ ?_
    refine Fw.seq fun _ hK8 => ?_
    refine Fw.condT rfl ?_
    refine Fw.skip ?_
    refine hK8 _ _ ?_
    refine Fw.seq fun _ hK9 => ?_
    refine Fw.block ?_
    refine Fw.seq fun _ hK10 => ?_
    have hkn : k < l.length := by omega
    refine Fw.region ?_
    obtain ⟨ad, b, o, hA, hadd, HE⟩ := Fw.rdAt Hi.cells_len (by decide) (h.low HB) k hkn
    refine Fw.s (Fw.val_indexR Try.underlying38 sz30 rfl hA rfl rfl hkn hadd) rfl ?_
    refine Fw.ldA ag30 rfl (HE) rfl rfl ?_
    refine Fw.alloc ze30 rfl ?_
    intro w2 gX5 egX5 HX5 hb
    have lgX5 : w.heap.size ≤ gX5 := by have := HB.size; omega
    clear HE
    replace HO := own_below HO hb (Nat.le_refl _)
    replace HB := HB.trans (hb.mono HB.size)
    clear hb
    clear egX5
    refine Fw.storeW sz30 rfl rfl HX5 rfl rfl (by exact Fw.oneCells rfl) ?_
    intro w3 N_ hc
    replace HO := own_to HO hc (fun g_ h_ e_ => own_ne HO HX5 (by decide) (by rw [h_, e_]))
    replace HB := HB.trans (hc.below (B := w.heap.size) (fun k e => by omega) HB.size)
    clear hc
    clear HX5
    have HX5 := N_
    clear N_
    refine Fw.nil ?_
    refine hK10 _ _ ?_
    refine Fw.region ?_
    refine Fw.s (Fw.val_move rfl) rfl ?_
    refine Fw.s (Fw.val_fieldAddr fl30_0 rfl rfl) rfl ?_
    refine Fw.ld sc2 rfl (HX5.cell 0) rfl ?_
    refine Fw.s (Fw.val_fieldAddr fl30_1 rfl rfl) rfl ?_
    refine Fw.ld sc2 rfl (HX5.cell 1) rfl ?_
    refine Fw.s (Fw.val_fieldAddr fl30_2 rfl rfl) rfl ?_
    refine Fw.ld sc28 rfl (HX5.cell 2) rfl ?_
    refine Fw.s (Fw.val_fieldAddr fl30_3 rfl rfl) rfl ?_
    refine Fw.ld sc28 rfl (HX5.cell 3) rfl ?_
    refine Fw.s (Fw.val_fieldAddr fl30_4 rfl rfl) rfl ?_
    refine Fw.ld sc28 rfl (HX5.cell 4) rfl ?_
    refine Fw.s (Fw.val_build (ps := [(0, _), (1, _), (2, _), (3, _), (4, _)]) rfl (bu33_0_1_2_3_4 _ _ _ _ _)) rfl ?_
    refine Fw.buildSlice [_] sl22 rfl rfl (by exact Fw.allSz rfl) (by decide) rfl ?_
    intro w4 gS24 egS24 HS24 hb
    have n_gX5_gS24 : gX5 < gS24 := by have := HX5.lt; omega
    have lgS24 : w.heap.size ≤ gS24 := by have := HB.size; omega
    replace HO := own_below HO hb (Nat.le_refl _)
    replace HX5 := HX5.low hb
    replace HB := HB.trans (hb.mono HB.size)
    clear hb
    clear egS24
    have hts : Hi.vals (l.take k) ++ Hi.V.cells l[k] = Hi.vals (l.take (k + 1)) := Hi.vals_snoc l k hkn
    refine Fw.append (k + 1) (Hi.vals (l.take (k + 1))) sl22 rfl rfl HO (show Rd _ _ (Hi.V.cells l[k]) from Fw.rdBlk HS24) rfl (Fw.oneCellsL rfl) (by unfold maxLen; omega) HB.size rfl hts rfl ?_
    intro A' c' w5 N_ hbb _ _
    replace HB := HB.trans hbb
    clear HO
    have HO := N_
    refine Fw.s (Fw.val_assign rfl) rfl ?_
    refine Fw.nil ?_
    refine Fw.X_blockN ?_
    refine hK9 _ _ (Fw.FC.sub (f' := [(3, _), (8, _), (7, _), (6, _)]) (.cons rfl (.cons rfl (.cons rfl (.cons rfl .nil)))) ?_)
    refine Fw.region ?_
    refine Fw.s (Fw.val_bin rfl rfl (Fw.b_add (Fw.i64_ok (by omega)))) rfl ?_
    refine Fw.s (Fw.val_move rfl) rfl ?_
    refine Fw.nil ?_
    refine Fw.roundEnd _ _ (by omega) ⟨k + 1, A', c', rfl, hkn, HO, HB, rfl⟩ (.cons rfl (.cons rfl (.cons rfl (.cons rfl .nil))))
  · rintro hk
    refine Fw.nil ?_
    refine hK6 _ _ ?_
    refine Fw.seq fun _ hK12 => ?_
    refine Fw.condF rfl ?_
    refine Fw.exit ?_
    refine Fw.X_exit ?_
    refine Fw.X_exit ?_
    refine Fw.X_block ?_
    refine hK3 _ _ ?_
    refine Fw.seq fun _ hK13 => ?_
    refine Fw.region ?_
    refine Fw.s (Fw.val_move rfl) rfl ?_
    refine Fw.s (Fw.val_assign rfl) rfl ?_
    refine Fw.nil ?_
    refine hK13 _ _ ?_
    refine Fw.ret ?_
    refine Fw.ret_ [.tmp 2] [_] Try.results14 (.tmp rfl .nil) ?_
    obtain rfl : k = l.length := by omega
    rw [List.take_length] at HO
    exact ⟨_, _, rfl, HO, HB⟩
end Go.Proofs.Ytgmhcfhmpjpomaa
